/- What a node is asked for: datakitref36.form and qparse.shape say bh. -/
import Derived.Test.YtiefeajappjnbaaGreatDoorGA
import Derived.Test.YtiefeajappjnbaaGreatDoorFrr36
import Derived.Test.YtiefeajappjnbaaGreatDoorShp36
import Derived.Test.YtiefeajappjnbaaGreatDoorHO
import Derived.Deep.WholeRow
import Derived.Test.YtiefeajappjnbaaGreatDoorGF
namespace Go.Proofs.YtiefeajappjnbaaGreatDoor
open Go.RowKit
theorem qd {x:ag} (h:¬ (1≤x.op∧x.op≤29)):bh x=false:=by
 rw [Bool.eq_false_iff]
 intro hf
 obtain ⟨h1,h2,_⟩:=of_decide_eq_true hf
 exact h ⟨h1,h2⟩
set_option maxRecDepth 100000 in
theorem rG (x:ag) (w:World) (B N:Nat) (cs:List Value) (he:ag.At w B N x cs) (h:¬ (1≤x.op∧x.op≤29)):Calls Tryz.prog 108 #[.agg cs.toArray] w (cq (bh x) w):=by
 obtain ⟨aa,fa,ac,fc,vs,hh⟩:=he.has
 have H0:=Hd (show Below w.heap.size w (w.alloc (.cells cs.toArray 34)) from af w _)
 have HF:=Hd (qd h)
 have c0:=hh.op
 clear hh he
 by_cases h1:x.op<1
 ·clear h
  go_enter Tryz.func108,Tryz.ntmps108
  go_wp2_with fail
  go_ret
  exact ⟨am HF.out.symm,H0.out⟩
 ·have h2:29<x.op:=by omega
  have h3:1≤x.op:=by omega
  clear h h1
  go_enter Tryz.func108,Tryz.ntmps108
  go_wp2_with fail
  go_ret
  exact ⟨am HF.out.symm,H0.out⟩
set_option maxRecDepth 100000 in
theorem pj (x:ag) (w:World) (B N:Nat) (cs:List Value) (hN:N≤1073741824) (he:ag.At w B N x cs) (h:¬ (1≤x.op∧x.op≤29)):Calls Tryz.prog 100 #[.agg cs.toArray] w (cq (bh x) w):=by
 obtain ⟨aa,fa,ac,fc,vs,hh⟩:=he.has
 have hlen:x.args.length≤N:=hh.own.2.2.1
 have H0:=Hd (show Below w.heap.size w (w.alloc (.cells cs.toArray 34)) from af w _)
 have HF:=Hd (qd h)
 have HC:=Hd (show aQ x.op x.args.length=false by unfold aQ;rw [decide_eq_false_iff_not];omega)
 have c0:=hh.op
 have c15:=hh.args
 clear hh he h
 go_enter Tryz.func100,Tryz.ntmps100
 go_wp2_with fail
 refine (tv _ x.args.length (by omega) _).mono ?_
 rintro e w1 ⟨rfl,rfl⟩
 rw [HC.out]
 go_wp2_with fail
 go_ret
 exact ⟨am HF.out.symm,H0.out⟩
theorem AU {o:Int}:KO o (eG o):=by
 by_cases h3:o=3
 ·subst h3;simp [KO,eG,ft]
 by_cases h7:o=7
 ·subst h7;simp [KO,eG,ft]
 by_cases h12:o=12
 ·subst h12;simp [KO,eG]
 by_cases h13:o=13
 ·subst h13;simp [KO,eG]
 by_cases h21:o=21
 ·subst h21;simp [KO,eG]
 by_cases h23:o=23
 ·subst h23;simp [KO,eG,ft]
 by_cases h25:o=25
 ·subst h25;simp [KO,eG,ft]
 exact .inr (.inr (.inr (.inr (.inr (.inr (.inr (gk.mk' h3 h7 h12 h13 h21 h23 h25)))))))
theorem Cf (x:ag) (w:World) (B N:Nat) (cs:List Value) (hN:N≤1073741824) (hB:B≤w.heap.size) (he:ag.At w B N x cs):Calls Tryz.prog 108 #[.agg cs.toArray] w (cq (bh x) w):=by
 by_cases h:1≤x.op∧x.op≤29
 ·exact uM x.op _ AU rfl h x w B N cs hN hB he rfl
 ·exact rG x w B N cs he h
theorem zk (x:ag) (w:World) (B N:Nat) (cs:List Value) (hN:N≤1073741824) (hB:B≤w.heap.size) (he:ag.At w B N x cs) (hsm:x.args.length≤65536):Calls Tryz.prog 100 #[.agg cs.toArray] w (cq (bh x) w):=by
 by_cases h:1≤x.op∧x.op≤29
 ·exact q8 x.op _ AU rfl h x w B N cs hN hB he rfl hsm
 ·exact pj x w B N cs hN he h
end Go.Proofs.YtiefeajappjnbaaGreatDoor

/- The reference's check of expressions (datakitref36.look, kid): it returns what aV says. -/
namespace Go.Proofs.YtiefeajappjnbaaGreatDoor
open Go.RowKit
abbrev lkE (m:Nat) (e:ag) (s:Int):Int×Int:=aV aC rgB m e s
abbrev kdE (m:Nat) (e:ag) (s:Int):Int×Int:=gN m (lkE m) e s
abbrev ksE (m:Nat) (l:List ag) (s:Int):Int×Int:=hZ m (lkE m) l s
def fnE (m:Nat) (l:List al) (s:Int):Int×Int:=if 256<l.length then (s,10) else cF aC (lkE m) [] l s
theorem wM {m:Nat} {x:ag} {s:Int} (h:4096≤s):lkE (m+1) x s=(s,10):=by
 show aV aC rgB (m+1) x s=_
 simp only [aV];rw [if_pos h]
theorem AO {m:Nat} {x:ag} {s:Int} (h:s<4096) (hf:bh x=false):lkE (m+1) x s=(s+1,1):=by
 show aV aC rgB (m+1) x s=_
 simp only [aV];rw [if_neg (by omega),if_pos hf]
theorem sQ {m:Nat} {x:ag} {s:Int} (h:s<4096) (hf:bh x=true) (h3:x.op=3) (hc:dJ x.val≠0):lkE (m+1) x s=(s+1,dJ x.val):=by
 show aV aC rgB (m+1) x s=_
 simp only [aV];rw [if_neg (by omega),if_neg (by rw [hf];simp),if_pos ⟨h3,hc⟩]
theorem wL {m:Nat} {x:ag} {s:Int} (h:s<4096) (hf:bh x=true) (h3:x.op=3→dJ x.val=0) (hr:rgB x=false):lkE (m+1) x s=(s+1,16):=by
 show aV aC rgB (m+1) x s=_
 simp only [aV];rw [if_neg (by omega),if_neg (by rw [hf];simp),if_neg (fun hh=>hh.2 (h3 hh.1)),if_pos hr]
theorem rp {m:Nat} {x:ag} {s:Int} (h:s<4096) (hf:bh x=true) (h3:x.op=3→dJ x.val=0) (hr:rgB x=true) :
 lkE (m+1) x s=if (fnE m x.funcs (s+1)).2≠0 then fnE m x.funcs (s+1) else ksE m x.args (fnE m x.funcs (s+1)).1:=by
 show aV aC rgB (m+1) x s=_
 simp only [aV];rw [if_neg (by omega),if_neg (by rw [hf];simp),if_neg (fun hh=>hh.2 (h3 hh.1)),if_neg (by rw [hr];simp)]
 unfold fnE
 by_cases h2:256<x.funcs.length
 ·rw [if_pos h2,if_pos h2,if_pos (show ((10:Int))≠0 by decide)]
 ·rw [if_neg h2,if_neg h2]
theorem Af {m:Nat} {s:Int}:fnE m [] s=(s,0):=rfl
theorem wK {m:Nat} {x:ag} {s:Int} (h:s<4096) (hf:bh x=true) (h3:x.op=3→dJ x.val=0) (hr:rgB x=true) (h23:x.op≠23):lkE (m+1) x s=ksE m x.args (s+1):=by
 rw [rp h hf h3 hr,nE hf h23,Af]
 rfl
theorem pU (m:Nat) {l:List ag} {i:Nat} (h:i<l.length) (s:Int):ksE m (l.drop i) s=if (kdE m l[i] s).2≠0 then kdE m l[i] s else ksE m (l.drop (i+1)) (kdE m l[i] s).1:=rr m (lkE m) h s
theorem ei (m:Nat) (e:ag) (s:Int) (h0:0≤s) (h1:s≤4096):0≤(lkE m e s).1∧(lkE m e s).1≤4096:=kM aC rgB m e s h0 h1
theorem nB (m:Nat) (e:ag) (s:Int) (h0:0≤s) (h1:s≤4096):0≤(kdE m e s).1∧(kdE m e s).1≤4096:=by
 unfold kdE gN
 split
 ·split
  ·exact ⟨h0,h1⟩
  ·split
   ·exact ⟨h0,h1⟩
   ·exact ⟨by show 0≤s+1;omega,by show s+1≤4096;omega⟩
 ·exact ei m e s h0 h1
theorem nF (m:Nat) (l:List al) (s:Int) (h0:0≤s) (h1:s≤4096):0≤(fnE m l s).1∧(fnE m l s).1≤4096:=by
 unfold fnE
 split
 ·exact ⟨h0,h1⟩
 ·have:∀ (l:List al) (seen:List ByteArray) (s:Int),0≤s→s≤4096→0≤(cF aC (lkE m) seen l s).1∧(cF aC (lkE m) seen l s).1≤4096:=by
   intro l
   induction l with
   | nil=>intro seen s h0 h1;exact ⟨h0,h1⟩
   | cons x r ihl =>
     intro seen s h0 h1
     simp only [cF]
     split
     ·exact ⟨h0,h1⟩
     ·split
      ·exact ei m _ _ h0 h1
      ·exact ihl _ _ (ei m _ _ h0 h1).1 (ei m _ _ h0 h1).2
  exact this l [] s h0 h1
def tO (r:Int×Int) (w:World) (e:Ending) (w':World):Prop:=e=.returned (.tuple #[.int .i64 r.1,.int .i64 r.2])∧Below w.heap.size w w'
theorem bp {r:Int×Int} {a b:Int} {w w':World} (h:r=(a,b)) (hb:Below w.heap.size w w'):tO r w (.returned (.tuple #[.int .i64 a,.int .i64 b])) w':=by subst h;exact ⟨rfl,hb⟩
def nU (m:Nat):Prop:=∀ (x:ag) (w:World) (B N:Nat) (cs:List Value) (depth:Nat) (s:Int),depth+m=49→0≤s→s≤4096→N≤1073741824→B≤w.heap.size→ag.At w B N x cs →
 Calls Tryz.prog 63 #[.agg cs.toArray,.int .i64 depth,.int .i64 s] w (tO (lkE m x s) w)
def Bb (m:Nat):Prop:=∀ (l:List al) (a:Option Addr) (c:Nat) (w:World) (B N:Nat) (depth:Nat) (s:Int),depth+m=49→0≤s→s≤4096→N≤1073741824→B≤w.heap.size→l.length≤N→av w B N l a →
 Calls Tryz.prog 77 #[.slice a l.length c,.int .i64 depth,.int .i64 s,.bool false] w (tO (fnE m l s) w)
set_option maxRecDepth 100000 in
theorem C9 (m:Nat) (ih:nU m) (x:ag) (w:World) (B N:Nat) (cs:List Value) (depth:Nat) (s:Int) (hd:depth+m=49) (hs0:0≤s) (hs1:s≤4096) (hN:N≤1073741824) (hB:B≤w.heap.size) (hx:ag.At w B N x cs) :
 Calls Tryz.prog 111 #[.agg cs.toArray,.int .i64 depth,.int .i64 s] w (tO (kdE m x s) w):=by
 have IH:=Hd ih
 have HX:=Hd hx
 have HD:=Hd hd
 have H0:=Hd (show Below w.heap.size w (w.alloc (.cells cs.toArray 34)) from af w _)
 have hl:=Hd (show (Tryz.prog.info? 34).map (·.size)=some cs.length by rw [hx.len];exact ay)
 obtain ⟨aa,fa,ac,fc,vs,hh⟩:=hx.has
 have c0:=hh.op
 clear hh hx ih
 by_cases h30:x.op=30
 ·rw [h30] at c0
  have HK:=Hd (show kdE m x s=(if m=0 then (s,9) else if 4096≤s then (s,10) else (s+1,0)) by unfold kdE gN;rw [if_pos h30])
  clear h30
  by_cases h1:depth≤48
  ·by_cases h2:4096≤s
   ·have HK2:=Hd (show kdE m x s=(s,10) by rw [HK.out,if_neg (by omega),if_pos h2])
    clear hd
    go_enter Tryz.func111,Tryz.ntmps111
    go_wp2_with fail
    go_ret2
    exact bp HK2.out H0.out
   ·have HK2:=Hd (show kdE m x s=(s+1,0) by rw [HK.out,if_neg (by omega),if_neg h2])
    clear hd
    go_enter Tryz.func111,Tryz.ntmps111
    go_wp2_with fail
    go_ret2
    exact bp HK2.out H0.out
  ·have HK2:=Hd (show kdE m x s=(s,9) by rw [HK.out,if_pos (by omega)])
   clear hd
   go_enter Tryz.func111,Tryz.ntmps111
   go_wp2_with fail
   go_ret2
   exact bp HK2.out H0.out
 ·have h30':(x.op==30)=false:=by simpa using h30
  have h30n:(x.op != 30)=true:=by simpa using h30
  obtain ⟨y,z,hyz⟩:∃ y z,lkE m x s=(y,z):=⟨_,_,rfl⟩
  have HY:=Hd hyz
  have HK:=Hd (show kdE m x s=(y,z) by unfold kdE gN;rw [if_neg h30];exact hyz)
  clear h30 hyz hd
  go_enter Tryz.func111,Tryz.ntmps111
  go_wp2_with (refine wpList_load_mid rfl 34 _ rfl w.heap.size 0 rfl cs _ (aA w cs 34).range Tryz.underlying34 rfl hl.out ?_)
  refine (IH.out x _ B N cs depth s HD.out hs0 hs1 hN (Nat.le_trans hB H0.out.size) (HX.out.below (H0.out.mono hB))).mono ?_
  rintro e w1 ⟨rfl,hb1⟩
  rw [HY.out]
  have H1:=Hd (ae H0.out hb1)
  clear hb1
  go_wp2_with fail
  go_ret2
  exact bp HK.out H1.out
set_option maxRecDepth 100000 in
set_option maxHeartbeats 6400000 in
theorem BG (m:Nat) (hk:nU m) (hf:Bb m):nU (m+1):=by
 intro x w B N cs depth s hd hs0 hs1 hN hB hx
 have HK:=Hd hk
 have HF:=Hd hf
 have HD:=Hd hd
 have HX:=Hd hx
 have hd':depth≤48:=by omega
 have hl:=Hd (show (Tryz.prog.info? 34).map (·.size)=some cs.length by rw [hx.len];exact ay)
 have H0:=Hd (show Below w.heap.size w (w.alloc (.cells cs.toArray 34)) from af w _)
 have HB0:=Hd (aA w cs 34)
 have hss:=Hd (show w.heap.size<(w.alloc (.cells cs.toArray 34)).heap.size by rw [World.size_alloc];omega)
 obtain ⟨aa,fa,ac,fc,vs,hh⟩:=hx.has
 have c0:=hh.op
 have c15:=hh.args
 have c16:=hh.funcs
 have hal:x.args.length≤N:=hh.own.2.2.1
 have hfl:x.funcs.length≤N:=hh.own.2.2.2
 have hlv:=Hd (show (Tryz.prog.info? 30).map (·.size)=some vs.length by rw [hh.atVal.len];exact bM)
 have HA:=Hd hh.atArgs
 have HU:=Hd hh.atFuncs
 have HV:=Hd hh.atVal
 have V0:=Hd (show aj (w.alloc (.cells cs.toArray 34)) w.heap.size (0+2) vs from hh.valRange (aA w cs 34))
 clear hh hx hk hf hd
 by_cases hs:4096≤s
 ·have HR:=Hd (wM (m:=m) (x:=x) hs)
  go_enter Tryz.func63,Tryz.ntmps63
  go_wp2_with fail
  go_ret2
  exact bp HR.out H0.out
 have hs:s<4096:=by omega
 have HS:=Hd hs
 have hc:x.op=3∨x.op=23∨((x.op==3)=false∧(x.op==23)=false):=by
  by_cases h3:x.op=3
  ·exact .inl h3
  ·by_cases h4:x.op=23
   ·exact .inr (.inl h4)
   ·exact .inr (.inr ⟨by simpa using h3,by simpa using h4⟩)
 obtain ⟨fb,hfb⟩:∃ b,bh x=b:=⟨_,rfl⟩
 have HFB:=Hd hfb
 obtain ⟨rb,hrb⟩:∃ b,rgB x=b:=⟨_,rfl⟩
 have HRB:=Hd hrb
 clear hfb hrb
 rcases hc with h3 | h23 | ⟨e3,e23⟩
 case' inl =>
  have HO3:=Hd h3
  have HN23:=Hd (show x.op≠23 by omega)
  rw [h3] at c0
  clear h3
 case' inr.inl =>
  have HO23:=Hd h23
  have HNC:=Hd (show x.op=3→dJ x.val=0 from fun h=>by omega)
  rw [h23] at c0
  clear h23
 case' inr.inr =>
  have HN23:=Hd (show x.op≠23 by simpa using e23)
  have HNC:=Hd (show x.op=3→dJ x.val=0 from fun h=>absurd h (by simpa using e3))
 all_goals
  go_enter Tryz.func63,Tryz.ntmps63
  go_wp2_with (refine wpList_load_mid rfl 34 _ rfl w.heap.size 0 rfl cs _ HB0.out.range Tryz.underlying34 rfl hl.out ?_)
  refine (Cf x _ B N cs hN (Nat.le_trans hB H0.out.size) (HX.out.below (H0.out.mono hB))).mono ?_
  rintro e w1 ⟨rfl,hb1⟩
  have R1:=Hd (HB0.out.then hb1 hss.out)
  have V1:=Hd (V0.out.then hb1 hss.out).range
  have H1:=Hd (ae H0.out hb1)
  have hs1':=Hd (Nat.lt_of_lt_of_le hss.out hb1.size)
  rw [HFB.out]
  clear hb1
  cases fb
  case false =>
   have HR:=Hd (AO (m:=m) HS.out HFB.out)
   go_wp2_with fail
   go_ret2
   exact bp HR.out H1.out
  clear HB0 V0 H0 hss
  have d0:=R1.out.get0 c0
  go_wp2_with (first
   | (refine wpList_load_mid rfl 34 _ rfl w.heap.size 0 rfl cs _ R1.out.range Tryz.underlying34 rfl hl.out ?_)
   | (refine wpList_load_mid rfl 30 _ rfl w.heap.size (0+2) rfl vs _ V1.out Tryz.underlying30 rfl hlv.out ?_))
  first
   | (refine (mO x.val _ B N vs (Nat.le_trans hN (by omega)) (Nat.le_trans hB H1.out.size) (HV.out.below (H1.out.mono hB))).mono ?_
      rintro e w2 ⟨rfl,hb2⟩
      have R2:=Hd (R1.out.then hb2 hs1'.out)
      have H2:=Hd (ae H1.out hb2)
      have hs2:=Hd (Nat.lt_of_lt_of_le hs1'.out hb2.size)
      clear d0 hb2
      obtain ⟨k2,hk2⟩:∃ k,dJ x.val=k:=⟨_,rfl⟩
      have HC2:=Hd hk2
      rw [hk2]
      clear hk2
      by_cases hk0:k2=0
      case' neg =>
       have HR:=Hd (show lkE (m+1) x s=(s+1,k2) by rw [sQ HS.out HFB.out HO3.out (by rw [HC2.out];exact hk0),HC2.out])
       have hk1:(k2 != 0)=true:=by simpa using hk0
       have hk2:(k2==0)=false:=by simpa using hk0
       go_wp2_with fail
       go_ret2
       exact bp HR.out H2.out
      case' pos =>
       subst hk0
       have HNC:=Hd (show x.op=3→dJ x.val=0 from fun _=>HC2.out)
       have d0:=R2.out.get0 c0
       go_wp2_with (refine wpList_load_mid rfl 34 _ rfl w.heap.size 0 rfl cs _ R2.out.range Tryz.underlying34 rfl hl.out ?_))
   | (obtain ⟨w2,rfl⟩:∃ w2,w2=w1:=⟨w1,rfl⟩
      have R2:=R1
      have H2:=H1
      have hs2:=hs1'
      clear R1 H1 hs1')
  refine (zv x _ B N cs hN (HX.out.below (H2.out.mono hB))).mono ?_
  rintro e w3 ⟨rfl,hb3⟩
  have R3:=Hd (R2.out.then hb3 hs2.out)
  have H3:=Hd (ae H2.out hb3)
  have hs3:=Hd (Nat.lt_of_lt_of_le hs2.out hb3.size)
  rw [HRB.out]
  clear d0 hb3 R2 H2 hs2
  cases rb
  case false =>
   have HR:=Hd (wL (m:=m) HS.out HFB.out HNC.out HRB.out)
   go_wp2_with fail
   go_ret2
   exact bp HR.out H3.out
  have d0:=R3.out.get0 c0
  have d15:=R3.out.get0 c15
  have d16:=R3.out.get0 c16
  go_wp2_with fail
  first
   | (refine (HF.out x.funcs fa fc _ B N (depth+1) (s+1) (by have:=HD.out;omega) (by omega) (by omega) hN (Nat.le_trans hB H3.out.size) hfl (av.below (H3.out.mono hB) _ HU.out)).mono ?_
      rintro e w4 ⟨rfl,hb4⟩
      have R4:=Hd (R3.out.then hb4 hs3.out)
      have H4:=Hd (ae H3.out hb4)
      have hs4:=Hd (Nat.lt_of_lt_of_le hs3.out hb4.size)
      clear d0 d15 d16 hb4 R3 H3 hs3
      have HRG:=Hd (nF m x.funcs (s+1) (by omega) (by omega))
      obtain ⟨n4,f4,h4⟩:∃ a b,fnE m x.funcs (s+1)=(a,b):=⟨_,_,rfl⟩
      have HG0:=rp (m:=m) HS.out HFB.out HNC.out HRB.out
      rw [h4] at HG0 HRG ⊢
      have HGO:=Hd HG0
      clear h4 HG0
      by_cases hf4:f4=0
      case' neg =>
       have HR:=Hd (show lkE (m+1) x s=(n4,f4) by rw [HGO.out,if_pos hf4])
       have hk1:(f4 != 0)=true:=by simpa using hf4
       have hk2:(f4==0)=false:=by simpa using hf4
       go_wp2_with fail
       go_ret2
       exact bp HR.out H4.out
      case' pos =>
       subst hf4
       have HKS:=Hd (show lkE (m+1) x s=ksE m x.args n4 by rw [HGO.out,if_neg (by simp)])
       have HN4:=Hd (show 0≤n4∧n4≤4096 from HRG.out)
       go_wp2_with fail)
   | (obtain ⟨w4,rfl⟩:∃ w4,w4=w3:=⟨w3,rfl⟩
      have R4:=R3
      have H4:=H3
      have hs4:=hs3
      have HKS:=Hd (wK (m:=m) HS.out HFB.out HNC.out HRB.out HN23.out)
      have HN4:=Hd (show 0≤s+1∧s+1≤4096 by omega)
      clear R3 H3 hs3 d0 d15 d16)
  go_simp
  go_loopw [2,11] (fun sv i wr=>∃ (y:Int) (k:Nat),k≤x.args.length∧lkE (m+1) x s=ksE m (x.args.drop k) y∧0≤y∧y≤4096∧sv=.int .i64 y∧i=.int .i64 k∧Below w4.heap.size w4 wr) (fun _ i _=>x.args.length-(intOf i).toNat)
  case atStart=>exact ⟨_,0,by omega,HKS.out,HN4.out.1,HN4.out.2,rfl,rfl,Below.refl _ _⟩
  case round =>
   obtain ⟨y,k,hk,hi,hy0,hy1,rfl,rfl,hbel⟩:=hrel
   have HI:=Hd hi
   have HB:=Hd hbel
   have R5:=Hd (R4.out.below hbel hs4.out)
   clear hi hbel
   have d15:=R5.out.get0 c15
   by_cases hlt:k<x.args.length
   ·have HST:=Hd (pU m hlt y)
    have HKR:=Hd (nB m x.args[k] y hy0 hy1)
    obtain ⟨b,p,rfl,hb,hget⟩:=HA.out.get (by intro h;simp [h] at hlt)
    obtain ⟨es,g1,g2⟩:=hget k hlt
    have hBw4:=Nat.le_trans hB H4.out.size
    have HR:=Hd ((g1.below H4.out (Nat.lt_of_lt_of_le hb hB)).below HB.out (Nat.lt_of_lt_of_le hb hBw4)).range
    have HE:=Hd ((g2.below (H4.out.mono hB)).below (HB.out.mono hBw4))
    have hle:=Hd (show (Tryz.prog.info? 34).map (·.size)=some es.length by rw [g2.len];exact ay)
    clear g1 g2 hget
    go_wp2_with (refine wpList_load_mid rfl 34 _ rfl b (p+k * 17) rfl es _ HR.out Tryz.underlying34 rfl hle.out ?_)
    refine (C9 m HK.out x.args[k] _ B N es (depth+1) y (by have:=HD.out;omega) hy0 hy1 hN (Nat.le_trans hBw4 HB.out.size) HE.out).mono ?_
    rintro e1 w6 ⟨rfl,hb6⟩
    have HB6:=Hd (ae HB.out hb6)
    clear hb6
    obtain ⟨y6,z6,h6⟩:∃ a b,kdE m x.args[k] y=(a,b):=⟨_,_,rfl⟩
    rw [h6] at HST HKR ⊢
    clear h6
    by_cases hz:z6=0
    ·subst hz
     have HS6:=Hd (show lkE (m+1) x s=ksE m (x.args.drop (k+1)) y6 by rw [HI.out,HST.out,if_neg (by simp)])
     go_wp2_with fail
     go_roundw
     case rel=>exact ⟨y6,k+1,by omega,HS6.out,HKR.out.1,HKR.out.2,rfl,by go_num,HB6.out⟩
     case measure=>simp [intOf];omega
    ·have HS6:=Hd (show lkE (m+1) x s=(y6,z6) by rw [HI.out,HST.out,if_pos hz])
     have hz1:(z6 != 0)=true:=by simpa using hz
     have hz2:(z6==0)=false:=by simpa using hz
     go_wp2_with fail
     go_ret2
     exact bp HS6.out (ae H4.out HB6.out)
   ·have HS6:=Hd (show lkE (m+1) x s=(y,0) by rw [HI.out,List.drop_eq_nil_of_le (by omega)];rfl)
    go_wp2_with fail
    go_ret2
    exact bp HS6.out (ae H4.out HB.out)
end Go.Proofs.YtiefeajappjnbaaGreatDoor

/- Names that were seen: plain laws of cF and i7. No program here. -/
namespace Go.Proofs.YtiefeajappjnbaaGreatDoor
open Go.RowKit
def cg (l:List al):List ByteArray:=l.map (·.name)
def jl (l:List aZ):List ByteArray:=l.map (·.name)
theorem oP {L:List ByteArray} {k j:Nat} {nm:ByteArray} (hj:j<k) (hl:j<L.length) (h:(L[j].toList==nm.toList)=true):((L.take k).any fun s=>s.toList==nm.toList)=true:=by
 rw [List.any_eq_true]
 refine ⟨L[j],?_,h⟩
 rw [List.mem_take_iff_getElem]
 exact ⟨j,by omega,rfl⟩
theorem rY {L:List ByteArray} {k:Nat} {nm:ByteArray} (h:∀ j (hl:j<L.length),j<k→(L[j].toList==nm.toList)=false):((L.take k).any fun s=>s.toList==nm.toList)=false:=by
 rw [List.any_eq_false]
 intro s hs
 rw [List.mem_take_iff_getElem] at hs
 obtain ⟨j,hj,rfl⟩:=hs
 have:=h j (by omega) (by omega)
 simpa using this
theorem fT {L:List ByteArray} {k:Nat} (h:k<L.length):L.take (k+1)=L.take k++[L[k]]:=by rw [List.take_append_getElem]
theorem cE (l:List al):(cg l).length=l.length:=by unfold cg;simp
theorem f8 (l:List aZ):(jl l).length=l.length:=by unfold jl;simp
theorem dQ {l:List al} {j:Nat} (h:j<l.length):(cg l)[j]'(by rw [cE];exact h)=l[j].name:=by unfold cg;simp
theorem f9 {l:List aZ} {j:Nat} (h:j<l.length):(jl l)[j]'(by rw [f8];exact h)=l[j].name:=by unfold jl;simp
def paE (l:List aZ) (k:Nat):Int:=i7 aC ((jl l).take k) (l.drop k)
theorem nq (l:List aZ):paE l 0=i7 aC [] l:=rfl
theorem lk (l:List aZ):paE l l.length=0:=by unfold paE;rw [List.drop_length];rfl
theorem oc {l:List aZ} {k:Nat} (h:k<l.length) (hi:aC l[k].name=false):paE l k=16:=by
 unfold paE;rw [fk aC h,if_pos hi]
theorem AM {l:List aZ} {k j:Nat} (h:k<l.length) (hi:aC l[k].name=true) (hj:j<k) (he:(l[j].name.toList==l[k].name.toList)=true):paE l k=8:=by
 unfold paE
 rw [fk aC h,if_neg (by rw [hi];simp),if_pos (oP hj (by rw [f8];omega) (by rw [f9 (by omega)];exact he))]
theorem pG {l:List aZ} {k:Nat} (h:k<l.length) (hi:aC l[k].name=true) (hn:∀ j (hj:j<k),(l[j].name.toList==l[k].name.toList)=false):paE l k=paE l (k+1):=by
 unfold paE
 rw [fk aC h,if_neg (by rw [hi];simp),if_neg (by
  rw [rY (fun j hl hjk=>by rw [f9 (by omega)];exact hn j hjk)];simp),fT (by rw [f8];exact h),f9 h]
def fuE (m:Nat) (l:List al) (k:Nat) (s:Int):Int×Int:=cF aC (lkE m) ((cg l).take k) (l.drop k) s
theorem tn {m:Nat} {l:List al} {s:Int} (h:256<l.length):fnE m l s=(s,10):=by unfold fnE;rw [if_pos h]
theorem A4 {m:Nat} {l:List al} {s:Int} (h:¬ 256<l.length):fnE m l s=fuE m l 0 s:=by unfold fnE;rw [if_neg h];rfl
theorem td (m:Nat) (l:List al) (s:Int):fuE m l l.length s=(s,0):=by unfold fuE;rw [List.drop_length];rfl
theorem ii {m:Nat} {l:List al} {k:Nat} {s z:Int} (h:k<l.length) (hz:z≠0) (hh:eM aC ((cg l).take k) l[k].name l[k].params=z):fuE m l k s=(s,z):=by
 unfold fuE
 rw [jt aC (lkE m) h,hh,if_pos hz]
theorem xE {m:Nat} {l:List al} {k:Nat} {s:Int} (h:k<l.length) (hi:aC l[k].name=false):fuE m l k s=(s,16) :=
 ii h (by decide) (by unfold eM;rw [if_pos hi])
theorem xF {m:Nat} {l:List al} {k:Nat} {s:Int} (h:k<l.length) (hi:aC l[k].name=true) (h8:8<l[k].params.length):fuE m l k s=(s,10) :=
 ii h (by decide) (by unfold eM;rw [if_neg (by rw [hi];simp),if_pos h8])
theorem lp {m:Nat} {l:List al} {k:Nat} {s z:Int} (h:k<l.length) (hi:aC l[k].name=true) (h8:¬ 8<l[k].params.length) (hz:z≠0) (hp:paE l[k].params 0=z):fuE m l k s=(s,z) :=
 ii h hz (by unfold eM;rw [if_neg (by rw [hi];simp),if_neg h8,← nq,hp,if_pos hz])
theorem Dh {m:Nat} {l:List al} {k j:Nat} {s:Int} (h:k<l.length) (hi:aC l[k].name=true) (h8:¬ 8<l[k].params.length) (hp:paE l[k].params 0=0) (hj:j<k)
 (he:(l[j].name.toList==l[k].name.toList)=true):fuE m l k s=(s,8) :=
 ii h (by decide) (by
  unfold eM
  rw [if_neg (by rw [hi];simp),if_neg h8,← nq,hp,if_neg (by simp),if_pos (oP hj (by rw [cE];omega) (by rw [dQ (by omega)];exact he))])
theorem BX {m:Nat} {l:List al} {k:Nat} {s:Int} (h:k<l.length) (hi:aC l[k].name=true) (h8:¬ 8<l[k].params.length) (hp:paE l[k].params 0=0)
 (hn:∀ j (hj:j<k),(l[j].name.toList==l[k].name.toList)=false):fuE m l k s=if (lkE m l[k].body s).2≠0 then lkE m l[k].body s else fuE m l (k+1) (lkE m l[k].body s).1:=by
 unfold fuE
 rw [jt aC (lkE m) h,show eM aC ((cg l).take k) l[k].name l[k].params=0 from by
  unfold eM
  rw [if_neg (by rw [hi];simp),if_neg h8,← nq,hp,if_neg (by simp),if_neg (by
   rw [rY (fun j hl hjk=>by rw [dQ (by rw [cE] at hl;exact hl)];exact hn j hjk)];simp)],if_neg (by simp),fT (by rw [cE];exact h),dQ h]
end Go.Proofs.YtiefeajappjnbaaGreatDoor

/- The reference's check of functions (datakitref36.funcs), given 'look' at the same depth: what fnE says; the reference's Check is chkE. -/
namespace Go.Proofs.YtiefeajappjnbaaGreatDoor
open Go.RowKit
set_option maxRecDepth 100000 in
set_option maxHeartbeats 6400000 in
theorem BT (m:Nat) (ih:nU m):Bb m:=by
 intro l a c w B N depth s hd hs0 hs1 hN hB hl hA
 have IH:=Hd ih
 have HD:=Hd hd
 have HA:=Hd hA
 clear ih hd hA
 by_cases hbig:256<l.length
 ·have HR:=Hd (tn (m:=m) (s:=s) hbig)
  go_enter Tryz.func77,Tryz.ntmps77
  go_wp2_with fail
  go_ret2
  exact bp HR.out (Below.refl _ _)
 have H00:=Hd (A4 (m:=m) (s:=s) hbig)
 go_enter Tryz.func77,Tryz.ntmps77
 go_wp2_with fail
 go_simp
 go_loopw [2,10] (fun sv i wr=>∃ (y:Int) (k:Nat),k≤l.length∧fnE m l s=fuE m l k y∧0≤y∧y≤4096∧sv=.int .i64 y∧i=.int .i64 k∧Below w.heap.size w wr) (fun _ i _=>l.length-(intOf i).toNat)
 case atStart=>exact ⟨_,0,by omega,H00.out,hs0,hs1,rfl,rfl,Below.refl _ _⟩
 case round =>
  obtain ⟨w1,rfl⟩:∃ w1,w1=wr:=⟨wr,rfl⟩
  obtain ⟨y,k,hk,hfu,hy0,hy1,rfl,rfl,hbel⟩:=hrel
  have HB:=Hd hbel
  have HFU:=Hd hfu
  clear hbel hfu
  by_cases hlt:k<l.length
  case neg =>
   obtain rfl:k=l.length:=by omega
   have HR:=Hd (show fnE m l s=(y,0) by rw [HFU.out,td])
   go_wp2_with fail
   go_ret2
   exact bp HR.out HB.out
  obtain ⟨b,p,rfl,hb,hget⟩:=HA.out.get (by intro h;simp [h] at hlt)
  have hbw:=Hd (Nat.lt_of_lt_of_le hb hB)
  have hBr:=Hd (Nat.le_trans hB HB.out.size)
  have G:=Hd hget
  obtain ⟨fs,g1,g2⟩:=hget k hlt
  have HR:=Hd (g1.below HB.out hbw.out).range
  obtain ⟨pa,pc,es,gh⟩:=(g2.below (HB.out.mono hB)).has
  have f0:=gh.name
  have f1:=gh.params
  have hlf:=Hd (show (Tryz.prog.info? 72).map (·.size)=some fs.length by rw [gh.len];exact cj)
  have hlf2:=Hd (show (Tryz.prog.info? 72).map (·.size)=some fs.toArray.size by rw [List.size_toArray,gh.len];exact cj)
  have h19:=Hd (show 19=fs.toArray.size by rw [List.size_toArray,gh.len])
  have hone:=Hd (show fs.toArray.all (·.oneCell')=true from Go.all_oneCell_toArray gh.one)
  have hnm:=Hd (show (l[k]).name.size≤maxLen by have:=gh.hn;unfold maxLen;omega)
  have hpl:(l[k]).params.length≤N:=gh.hp
  have HP:=Hd gh.atPar
  have HE:=Hd gh.atBody
  have HBd:=Hd gh.body
  have FX:=Hd (aA w1 fs 72)
  have HW:=Hd (show Below w.heap.size w (w1.alloc (.cells fs.toArray 72)) from ae HB.out (af w1 _))
  have hwr:=Hd (show w1.heap.size<(w1.alloc (.cells fs.toArray 72)).heap.size by rw [World.size_alloc];omega)
  clear gh g1 g2 hget hb
  obtain ⟨ib,hib⟩:∃ v,aC (l[k]).name=v:=⟨_,rfl⟩
  have HI:=Hd hib
  clear hib
  go_wp2_with (first
   | (refine wpList_load_mid rfl 72 _ rfl b (p+k * 19) rfl fs _ HR.out Tryz.underlying72 rfl hlf.out ?_)
   | (refine ak rfl 72 _ _ rfl _ fs.toArray rfl rfl hlf2.out h19.out hone.out ?_))
  refine (js _ _ hnm.out).mono ?_
  rintro e w' ⟨rfl,rfl⟩
  rw [HI.out]
  cases ib
  case false =>
   have HZ:=Hd (show fnE m l s=(y,16) by rw [HFU.out,xE hlt HI.out])
   go_wp2_with fail
   go_ret2
   exact bp HZ.out HW.out
  by_cases h8:8<(l[k]).params.length
  ·have HZ:=Hd (show fnE m l s=(y,10) by rw [HFU.out,xF hlt HI.out h8])
   go_wp2_with fail
   go_ret2
   exact bp HZ.out HW.out
  have H8:=Hd (show ¬ 8<(l[k]).params.length from h8)
  go_wp2_with fail
  go_simp
  go_loopw [12] (fun i w2=>∃ (k2:Nat),k2≤(l[k]).params.length∧paE (l[k]).params 0=paE (l[k]).params k2∧i=.int .i64 k2∧Below (w1.alloc (.cells fs.toArray 72)).heap.size (w1.alloc (.cells fs.toArray 72)) w2) (fun i _=>(l[k]).params.length-(intOf i).toNat)
  case atStart=>exact ⟨0,by omega,rfl,rfl,Below.refl _ _⟩
  case round =>
   obtain ⟨w2,rfl⟩:∃ w2,w2=wr:=⟨wr,rfl⟩
   obtain ⟨k2,hk2,hpp,rfl,hb2⟩:=hrel
   have F2:=Hd (FX.out.below hb2 hwr.out)
   have B2:=Hd hb2
   have HPP:=Hd hpp
   clear hb2 hpp
   have d1:=F2.out.get0 f1
   by_cases hlt2:k2<(l[k]).params.length
   case pos =>
    obtain ⟨b2,p2,rfl,hp2,hpar⟩:=HP.out.get (by intro h;simp [h] at hlt2)
    have PB:=Hd (show Below B w1 w2 from ((ae (af w1 _) B2.out).mono hBr.out))
    have GP:=Hd hpar
    have q0:=((hpar k2 hlt2).2.below PB.out hp2).get0' rfl
    have hn2:=Hd (show ((l[k]).params[k2]).name.size≤maxLen by have:=(hpar k2 hlt2).1;unfold maxLen;omega)
    clear hpar
    obtain ⟨pb,hpb⟩:∃ v,aC ((l[k]).params[k2]).name=v:=⟨_,rfl⟩
    have HPB:=Hd hpb
    clear hpb
    go_wp2_with fail
    refine (js _ _ hn2.out).mono ?_
    rintro e w' ⟨rfl,rfl⟩
    rw [HPB.out]
    cases pb
    case false =>
     have HZ:=Hd (show fnE m l s=(y,16) by rw [HFU.out,lp hlt HI.out (by have:=H8.out;omega) (by decide) (HPP.out.trans (oc hlt2 HPB.out))])
     go_wp2_with fail
     go_ret2
     exact bp HZ.out (ae HW.out B2.out)
    go_wp2_with fail
    go_simp
    go_loopw [13] (fun i w3=>∃ (k3:Nat),k3≤k2∧i=.int .i64 k3∧Hid (∀ j (hj:j<k3) (hl:j<(l[k]).params.length),((l[k]).params[j].name.toList==(l[k]).params[k2].name.toList)=false)∧∃ q,w3=w2.drewN q) (fun i _=>k2-(intOf i).toNat)
    case atStart=>exact ⟨0,by omega,rfl,Hd fun j hj=>absurd hj (by omega),0,rfl⟩
    case round =>
     obtain ⟨k3,hk3,rfl,HNE,q,rfl⟩:=hrel
     by_cases hlt3:k3<k2
     case pos =>
      have hlt4:k3<(l[k]).params.length:=by omega
      have q1:=((GP.out k3 hlt4).2.below PB.out hp2).get0' rfl
      cases he:((l[k]).params[k3].name.toList==(l[k]).params[k2].name.toList)
      ·have HN3:=Hd (show ∀ j (hj:j<k3+1) (hl:j<(l[k]).params.length),((l[k]).params[j].name.toList==(l[k]).params[k2].name.toList)=false from fun j hj hl=>by
        by_cases hjk:j=k3
        ·subst hjk;exact he
        ·exact HNE.out j (by omega) hl)
       go_wp2_with fail
       go_quiet (fail)
       go_wp2_with fail
       go_roundw
       case rel=>exact ⟨k3+1,by omega,by go_num,HN3,_,rfl⟩
       case measure=>simp [intOf];omega
      ·have HZ:=Hd (show fnE m l s=(y,8) by rw [HFU.out,lp hlt HI.out (by have:=H8.out;omega) (by decide) (HPP.out.trans (AM hlt2 HPB.out hlt3 he))])
       go_wp2_with fail
       go_quiet (fail)
       go_wp2_with fail
       go_ret2
       exact bp HZ.out (ae (ae HW.out B2.out) (eV ⟨_,World.drewN_drewN _ _ _⟩))
     case neg =>
      have HPN:=Hd (HPP.out.trans (pG hlt2 HPB.out (fun j hj=>HNE.out j (by omega) (by omega))))
      go_wp2_with fail
      go_roundw
      case rel=>exact ⟨k2+1,by omega,HPN.out,by go_num,ae B2.out (below_drewN _ _)⟩
      case measure=>simp [intOf];omega
   case neg =>
    have HP0:=Hd (show paE (l[k]).params 0=0 by rw [HPP.out,show k2=(l[k]).params.length by omega,lk])
    have hw2:w1.heap.size<w2.heap.size:=Nat.lt_of_lt_of_le hwr.out B2.out.size
    have BB:=Hd (show Below w.heap.size w w2 from ae HW.out B2.out)
    have d0:=F2.out.get0 f0
    have FE:=Hd (F2.out.drop2 HBd.out)
    have HE2:=Hd (HE.out.below (show Below B w1 w2 from ((ae (af w1 _) B2.out).mono hBr.out)))
    have hle:=Hd (show (Tryz.prog.info? 34).map (·.size)=some es.length by rw [HE.out.len];exact ay)
    go_wp2_with fail
    go_simp
    go_loopw [14] (fun i w3=>∃ (k4:Nat),k4≤k∧i=.int .i64 k4∧Hid (∀ j (hj:j<k4) (hl:j<l.length),(l[j].name.toList==l[k].name.toList)=false)∧∃ q,w3=w2.drewN q) (fun i _=>k-(intOf i).toNat)
    case atStart=>exact ⟨0,by omega,rfl,Hd fun j hj=>absurd hj (by omega),0,rfl⟩
    case round =>
     obtain ⟨k4,hk4,rfl,HNE,q,rfl⟩:=hrel
     by_cases hlt4:k4<k
     case pos =>
      have hlt5:k4<l.length:=by omega
      obtain ⟨fs4,g1,g2⟩:=G.out k4 hlt5
      obtain ⟨_,_,_,gh⟩:=g2.has
      have q1:=(g1.below BB.out hbw.out).get0' gh.name
      clear gh g1 g2
      cases he:(l[k4].name.toList==l[k].name.toList)
      ·have HN4:=Hd (show ∀ j (hj:j<k4+1) (hl:j<l.length),(l[j].name.toList==l[k].name.toList)=false from fun j hj hl=>by
        by_cases hjk:j=k4
        ·subst hjk;exact he
        ·exact HNE.out j (by omega) hl)
       go_wp2_with fail
       go_quiet (fail)
       go_wp2_with fail
       go_roundw
       case rel=>exact ⟨k4+1,by omega,by go_num,HN4,_,rfl⟩
       case measure=>simp [intOf];omega
      ·have HZ:=Hd (show fnE m l s=(y,8) by rw [HFU.out,Dh hlt HI.out (by have:=H8.out;omega) HP0.out hlt4 he])
       go_wp2_with fail
       go_quiet (fail)
       go_wp2_with fail
       go_ret2
       exact bp HZ.out (ae BB.out (eV ⟨_,World.drewN_drewN _ _ _⟩))
     case neg =>
      have HGO:=Hd (HFU.out.trans (BX hlt HI.out (by have:=H8.out;omega) HP0.out (fun j hj=>HNE.out j (by omega) (by omega))))
      have HR2:=Hd (FE.out.below (below_drewN w2 q) hw2).range
      have hBw:B≤w2.heap.size:=Nat.le_trans hB BB.out.size
      have HE3:=Hd (HE2.out.below ((below_drewN w2 q).mono hBw))
      have BBq:=Hd (ae BB.out (below_drewN w2 q))
      have HRG:=Hd (ei m (l[k]).body y hy0 hy1)
      obtain ⟨y6,z6,h6⟩:∃ a b,lkE m (l[k]).body y=(a,b):=⟨_,_,rfl⟩
      rw [h6] at HGO HRG
      have H6:=Hd h6
      clear h6
      go_wp2_with (refine wpList_load_mid rfl 34 _ rfl w1.heap.size 2 rfl es _ HR2.out Tryz.underlying34 rfl hle.out ?_)
      refine (IH.out (l[k]).body _ B N es depth y HD.out hy0 hy1 hN (Nat.le_trans hB BBq.out.size) HE3.out).mono ?_
      rintro e6 w6 ⟨rfl,hb6⟩
      rw [H6.out]
      have HB6:=Hd (ae BBq.out hb6)
      clear hb6
      by_cases hz:z6=0
      ·subst hz
       have HZ:=Hd (show fnE m l s=fuE m l (k+1) y6 by rw [HGO.out,if_neg (by simp)])
       go_wp2_with fail
       go_roundw
       case rel=>exact ⟨y6,k+1,by omega,HZ.out,HRG.out.1,HRG.out.2,rfl,by go_num,HB6.out⟩
       case measure=>simp [intOf];omega
      ·have HZ:=Hd (show fnE m l s=(y6,z6) by rw [HGO.out,if_pos hz])
       have hz1:(z6 != 0)=true:=by simpa using hz
       have hz2:(z6==0)=false:=by simpa using hz
       go_wp2_with fail
       go_ret2
       exact bp HZ.out HB6.out
theorem zK:nU 0:=by
 intro x w B N cs depth s hd hs0 hs1 hN hB hx
 have H0:=Hd (show Below w.heap.size w (w.alloc (.cells cs.toArray 34)) from af w _)
 have HR:=Hd (show lkE 0 x s=(s,9) from rfl)
 clear hx
 go_enter Tryz.func63,Tryz.ntmps63
 go_wp2_with fail
 go_ret2
 exact bp HR.out H0.out
theorem l0:∀ m,nU m
 | 0=>zK
 | m+1=>BG m (l0 m) (BT m (l0 m))
def eH (e:ag):Int:=(lkE 48 e 0).2
theorem tH (x:ag) (w:World) (B N:Nat) (cs:List Value) (hN:N≤1073741824) (hB:B≤w.heap.size) (hx:ag.At w B N x cs) :
 Calls Tryz.prog 23 #[.agg cs.toArray] w (gK (eH x) w):=by
 have HX:=Hd hx
 have hl:=Hd (show (Tryz.prog.info? 34).map (·.size)=some cs.length by rw [hx.len];exact ay)
 have H0:=Hd (show Below w.heap.size w (w.alloc (.cells cs.toArray 34)) from af w _)
 clear hx
 obtain ⟨y,z,h⟩:∃ a b,lkE 48 x 0=(a,b):=⟨_,_,rfl⟩
 have H:=Hd h
 have HZ:=Hd (show eH x=z by unfold eH;rw [h])
 clear h
 go_enter Tryz.func23,Tryz.ntmps23
 go_wp2_with (refine wpList_load_mid rfl 34 _ rfl w.heap.size 0 rfl cs _ (aA w cs 34).range Tryz.underlying34 rfl hl.out ?_)
 refine (l0 48 x _ B N cs 1 0 (by omega) (by omega) (by omega) hN (Nat.le_trans hB H0.out.size) (HX.out.below (H0.out.mono hB))).mono ?_
 rintro e w1 ⟨rfl,hb1⟩
 rw [H.out]
 have H1:=Hd (ae H0.out hb1)
 clear hb1
 go_wp2_with fail
 go_ret
 exact ⟨aP HZ.out.symm,H1.out⟩
end Go.Proofs.YtiefeajappjnbaaGreatDoor

/- What the program's check of expressions keeps: laid variables, sets of names, a counter behind a pointer. -/
namespace Go.Proofs.YtiefeajappjnbaaGreatDoor
open Go.RowKit
theorem Env.fb {w w':World} {pb B:Nat} (h:Env w) (hf:FB pb w w') (h4:4≤B) (hp:B≤pb) (hB:B≤w.heap.size):Env w':=by
 have hb:Below B w w':=hf.below hp hB
 obtain ⟨hu,⟨T,fr,hk⟩,m,hm⟩:=h
 refine ⟨⟨fun c hc=>?_,fun i hi=>?_⟩,⟨T,fr,?_⟩,m,?_⟩
 ·rw [hb.cell (show 0<B by omega)];exact hu.1 c hc
 ·have h1:=hu.2 i hi
  exact ⟨by rw [hb.cell (show 1<B by omega)];exact h1.1,by rw [hb.cell (show 1<B by omega)];exact h1.2⟩
 ·rw [hb.block _ (show 2<B by omega)];exact hk
 ·rw [hb.cell (show 3<B by omega)];exact hm
theorem FB.grown {pb b:Nat} {a w w':World} (h:FB pb a w) (hg:w.grownBy w' (some b)) (hb:a.heap.size≤b):FB pb a w' :=
 ⟨hg.os.trans h.os,hg.tape.trans h.tape,hg.output.trans h.output,Nat.le_trans h.size hg.size,fun k hk hn =>
  (hg.block k (Nat.lt_of_lt_of_le hk h.size) (fun e=>by cases e;omega)).trans (h.block k hk hn)⟩
theorem FB.cell {pb b o:Nat} {a c:World} (h:FB pb a c) (hb:b<a.heap.size) (hn:b≠pb):c.cell? ⟨b,o,none⟩=a.cell? ⟨b,o,none⟩:=by
 simp only [World.cell?]
 rw [h.block b hb hn]
theorem bQ.fb {w w':World} {K E:TypeId} {b n pb:Nat} {l:List (List UInt8)} (h:bQ w K E b n l) (hf:FB pb w w') (hn:b≠pb):bQ w' K E b n l:=h.block (hf.block b h.lt hn)
theorem bS.grown {w w':World} {pb b:Nat} {x:Int} (h:bS w pb x) (hg:w.grownBy w' (some b)) (hn:pb≠b):bS w' pb x:=(hg.block pb h.lt (fun e=>by cases e;exact hn rfl)).trans h
theorem j7 {w:World} {b o:Nat} {v:Value} (h:w.cell? ⟨b,o,none⟩=some v):b<w.heap.size:=World.block_lt_of_cell? w _ h
def cu (L:List ByteArray):List (List UInt8):=L.map (·.data.toList)
theorem fU {L:List ByteArray} {k:Nat} (h:k<L.length):cu (L.take (k+1))=cu (L.take k)++[L[k].data.toList]:=by
 unfold cu;rw [fT h,List.map_append];rfl
theorem gW (L:List ByteArray) (nm:ByteArray):decide (nm.data.toList∈cu L)=L.any fun s=>s.toList==nm.toList:=by
 rw [Bool.eq_iff_iff,decide_eq_true_eq,List.any_eq_true]
 unfold cu
 rw [List.mem_map]
 constructor
 ·rintro ⟨s,hs,he⟩
  exact ⟨s,hs,by rw [ByteArray.toList_eq,ByteArray.toList_eq,he];simp⟩
 ·rintro ⟨s,hs,he⟩
  refine ⟨s,hs,?_⟩
  rw [ByteArray.toList_eq,ByteArray.toList_eq] at he
  simpa using he
theorem pI {l:List aZ} {k:Nat} (h:k<l.length) (hi:aC l[k].name=true) (hs:decide (l[k].name.data.toList∈cu ((jl l).take k))=true):paE l k=8:=by
 unfold paE
 rw [fk aC h,if_neg (by rw [hi];simp),if_pos (by rw [← gW];exact hs)]
theorem pH {l:List aZ} {k:Nat} (h:k<l.length) (hi:aC l[k].name=true) (hs:decide (l[k].name.data.toList∈cu ((jl l).take k))=false):paE l k=paE l (k+1):=by
 unfold paE
 rw [fk aC h,if_neg (by rw [hi];simp),if_neg (by rw [← gW,hs];simp),fT (by rw [f8];exact h),f9 h]
theorem xD {m:Nat} {l:List al} {k:Nat} {s:Int} (h:k<l.length) (hi:aC l[k].name=true) (h8:¬ 8<l[k].params.length) (hp:paE l[k].params 0=0)
 (hs:decide (l[k].name.data.toList∈cu ((cg l).take k))=true):fuE m l k s=(s,8) :=
 ii h (by decide) (by
  unfold eM
  rw [if_neg (by rw [hi];simp),if_neg h8,← nq,hp,if_neg (by simp),if_pos (by rw [← gW];exact hs)])
theorem xC {m:Nat} {l:List al} {k:Nat} {s:Int} (h:k<l.length) (hi:aC l[k].name=true) (h8:¬ 8<l[k].params.length) (hp:paE l[k].params 0=0)
 (hs:decide (l[k].name.data.toList∈cu ((cg l).take k))=false):fuE m l k s=if (lkE m l[k].body s).2≠0 then lkE m l[k].body s else fuE m l (k+1) (lkE m l[k].body s).1:=by
 unfold fuE
 rw [jt aC (lkE m) h,show eM aC ((cg l).take k) l[k].name l[k].params=0 from by
  unfold eM
  rw [if_neg (by rw [hi];simp),if_neg h8,← nq,hp,if_neg (by simp),if_neg (by rw [← gW,hs];simp)],if_neg (by simp),fT (by rw [cE];exact h),dQ h]
def vu (m:Nat):Prop:=∀ (x:ag) (w:World) (B N:Nat) (cs:List Value) (depth:Nat) (n:Int) (pb:Nat),depth+m=49→0≤n→n≤4096→N≤1073741824→4≤B→B≤w.heap.size→B≤pb→bS w pb n→Env w→cc x→ag.At w B N x cs →
 Calls Tryz.prog 55 #[.agg cs.toArray,.int .i64 depth,.pointer (some ⟨pb,0,none⟩)] w (vy pb (lkE m x n) w)
def Bc (m:Nat):Prop:=∀ (l:List al) (a:Option Addr) (c:Nat) (w:World) (B N:Nat) (depth:Nat) (n:Int) (pb db nb:Nat),depth+1+m=49→0≤n→n≤4096→N≤1073741824→4≤B→B≤w.heap.size→B≤pb→bS w pb n→Env w →
 w.cell? ⟨db,0,none⟩=some (.int .i64 depth)→w.cell? ⟨nb,0,none⟩=some (.pointer (some ⟨pb,0,none⟩))→db≠pb→nb≠pb→l.length≤N→gY l→av w B N l a →
 Calls Tryz.prog 73 #[.slice a l.length c,.func (.func 103) #[] #[.pointer (some ⟨db,0,none⟩),.pointer (some ⟨nb,0,none⟩)]] w (vy pb (fnE m l n) w)
theorem bX {pb:Nat} {r:Int×Int} {y z u:Int} {w w':World} (h:r=(y,z)) (hf:FB pb w w') (hu:bS w' pb u) (hz:z=0→u=y):vy pb r w (.returned (.int .i64 z)) w':=by
 subst h;exact ⟨rfl,hf,u,hu,hz⟩
set_option maxRecDepth 100000 in
theorem CO (m:Nat) (ih:vu m) (x:ag) (w:World) (B N:Nat) (cs:List Value) (depth:Nat) (n:Int) (pb db nb:Nat) (hd:depth+1+m=49) (h0:0≤n) (h1:n≤4096) (hN:N≤1073741824) (h4:4≤B) (hB:B≤w.heap.size)
 (hp:B≤pb) (hc:bS w pb n) (hE:Env w) (hdb:w.cell? ⟨db,0,none⟩=some (.int .i64 depth)) (hnb:w.cell? ⟨nb,0,none⟩=some (.pointer (some ⟨pb,0,none⟩))) (hs:cc x) (hx:ag.At w B N x cs) :
 Calls Tryz.prog 103 #[.agg cs.toArray,.pointer (some ⟨db,0,none⟩),.pointer (some ⟨nb,0,none⟩)] w (vy pb (lkE m x n) w):=by
 have IH:=Hd ih
 have HX:=Hd hx
 have HE:=Hd hE
 have HC:=Hd hc
 have HS:=Hd hs
 have HD:=Hd hd
 have hdd:depth≤48:=by omega
 have H0:=Hd (show Below w.heap.size w (w.alloc (.cells cs.toArray 34)) from af w _)
 have hl:=Hd (show (Tryz.prog.info? 34).map (·.size)=some cs.length by rw [hx.len];exact ay)
 have e1:(w.alloc (.cells cs.toArray 34)).cell? ⟨db,0,none⟩=some (.int .i64 depth):=by rw [H0.out.cell (j7 hdb)];exact hdb
 have e2:(w.alloc (.cells cs.toArray 34)).cell? ⟨nb,0,none⟩=some (.pointer (some ⟨pb,0,none⟩)):=by rw [H0.out.cell (j7 hnb)];exact hnb
 obtain ⟨y,z,hyz⟩:∃ a b,lkE m x n=(a,b):=⟨_,_,rfl⟩
 have HY:=Hd hyz
 clear hdb hnb hx ih hE hc hs hd hyz
 go_enter Tryz.func103,Tryz.ntmps103
 go_wp2_with (refine wpList_load_mid rfl 34 _ rfl w.heap.size 0 rfl cs _ (aA w cs 34).range Tryz.underlying34 rfl hl.out ?_)
 refine (IH.out x _ B N cs (depth+1) n pb (by have:=HD.out;omega) h0 h1 hN h4 (Nat.le_trans hB H0.out.size) hp (HC.out.below H0.out) (HE.out.then H0.out) HS.out (HX.out.below (H0.out.mono hB))).mono ?_
 rintro e w1 ⟨rfl,hf,u,hu,hz⟩
 rw [HY.out] at hz ⊢
 have HF:=Hd ((FB.of_below (pb:=pb) H0.out).trans hf)
 have HU:=Hd hu
 have HZ:=Hd hz
 clear hf hu hz
 go_wp2_with fail
 go_ret
 exact bX HY.out HF.out HU.out HZ.out
end Go.Proofs.YtiefeajappjnbaaGreatDoor
