/- qparse.isName: is a string a name? -/
import Derived.Test.YtiefeajappjnbaaGreatDoorGA
import Derived.Test.YtiefeajappjnbaaGreatDoorHD
import Derived.Test.YtiefeajappjnbaaGreatDoorGC
import Derived.Test.YtiefeajappjnbaaGreatDoorMB
import Derived.Test.YtiefeajappjnbaaGreatDoorMC
import Derived.Test.YtiefeajappjnbaaGreatDoorRow36
import Derived.Test.YtiefeajappjnbaaGreatDoorGI
namespace Go.Proofs.YtiefeajappjnbaaGreatDoor
open Go.RowKit
theorem byteJ_range {s:ByteArray} {n:Nat} (h:n<s.size):0≤byteI s n∧byteI s n≤255:=by
 rw [← byteI_eq h]
 have:=UInt8.toNat_lt s[n]
 omega
set_option maxRecDepth 100000 in
set_option maxHeartbeats 3200000 in
theorem isName_p (s:ByteArray) (w:World) (hs:s.size≤maxLen):Calls Tryz.prog 106 #[.string s] w fun e w'=>e=.returned (.bool (nameB s))∧w=w':=by
 unfold maxLen at hs
 go_enter Tryz.func106,Tryz.ntmps106
 go_wp2_with fail
 go_loop [3] (fun k=>∃ n:Nat,n≤s.size∧k=.int .i64 n∧(n=0∨n+runAt s n=nameAt s 0)) (fun k=>s.size-(intOf k).toNat)
 case atStart=>exact ⟨0,by omega,rfl,.inl rfl⟩
 case round =>
  obtain ⟨n,hn,rfl,hr⟩:=hrel
  by_cases hlt:n<s.size
  ·have hb:=byteI_eq hlt
   have hrg:=byteJ_range hlt
   have HRA:=Hd hr
   have HLET:=Hd (fun h:letterB (byteI s n)=true=>show letterB s[n].toNat=true by rw [hb];exact h)
   have HLEN:=Hd (fun h:letterB (byteI s n)=false=>show letterB s[n].toNat=false by rw [hb];exact h)
   have HDIT:=Hd (fun h:digitB (byteI s n)=true=>show digitB s[n].toNat=true by rw [hb];exact h)
   have HDIN:=Hd (fun h:digitB (byteI s n)=false=>show digitB s[n].toNat=false by rw [hb];exact h)
   have HPOS:=Hd (show nameB s=(nameAt s 0==s.size) by simp [nameB,show 0<s.size by omega])
   clear hr
   have hcl:(0≤byteI s n∧byteI s n≤47)∨(48≤byteI s n∧byteI s n≤57)∨(58≤byteI s n∧byteI s n≤64)∨(65≤byteI s n∧byteI s n≤90)∨(91≤byteI s n∧byteI s n≤94)∨(95≤byteI s n∧byteI s n≤95)∨(96≤byteI s n∧byteI s n≤96)∨(97≤byteI s n∧byteI s n≤122)∨(123≤byteI s n∧byteI s n≤255):=by omega
   rcases hcl with h | h | h | h | h | h | h | h | h
   ·have HH:=Hd h
    have g97:¬ 97≤byteI s n:=by omega
    have g65:¬ 65≤byteI s n:=by omega
    have g48:¬ 48≤byteI s n:=by omega
    have g122:byteI s n≤122:=by omega
    have g90:byteI s n≤90:=by omega
    have g57:byteI s n≤57:=by omega
    have g95:(byteI s n==95)=false:=by simp;omega
    clear h hrg
    by_cases hn0:n=0
    ·subst hn0
     go_wp2_with fail
     go_ret
     refine ⟨ret_bool ?_,rfl⟩
     rw [HPOS.out,nameAt_none s 0 hlt (HLEN.out (by have:=HH.out;unfold letterB;simp;omega))]
     simp;omega
    ·have hn1:(0:Int)<(n:Int):=by omega
     go_wp2_with fail
     go_ret
     refine ⟨ret_bool ?_,rfl⟩
     have hz:=runAt_stop s n hlt (HLEN.out (by have:=HH.out;unfold letterB;simp;omega)) (HDIN.out (by have:=HH.out;unfold digitB;simp;omega))
     rw [HPOS.out,← HRA.out.resolve_left hn0,hz]
     simp;omega
   ·have HH:=Hd h
    have g97:¬ 97≤byteI s n:=by omega
    have g65:¬ 65≤byteI s n:=by omega
    have g48:48≤byteI s n:=by omega
    have g122:byteI s n≤122:=by omega
    have g90:byteI s n≤90:=by omega
    have g57:byteI s n≤57:=by omega
    have g95:(byteI s n==95)=false:=by simp;omega
    clear h hrg
    by_cases hn0:n=0
    ·subst hn0
     go_wp2_with fail
     go_ret
     refine ⟨ret_bool ?_,rfl⟩
     rw [HPOS.out,nameAt_none s 0 hlt (HLEN.out (by have:=HH.out;unfold letterB;simp;omega))]
     simp;omega
    ·have hn1:(0:Int)<(n:Int):=by omega
     go_wp2_with fail
     go_round
     case rel=>exact ⟨n+1,by omega,by go_num,.inr (by
      have hz:=runAt_digit s n hlt (HDIT.out (by have:=HH.out;unfold digitB;simp;omega))
      rcases HRA.out with h0 | h0
      ·subst h0
       exact absurd rfl hn0
      ·omega)⟩
     case measure=>simp [intOf];omega
   ·have HH:=Hd h
    have g97:¬ 97≤byteI s n:=by omega
    have g65:¬ 65≤byteI s n:=by omega
    have g48:48≤byteI s n:=by omega
    have g122:byteI s n≤122:=by omega
    have g90:byteI s n≤90:=by omega
    have g57:¬ byteI s n≤57:=by omega
    have g95:(byteI s n==95)=false:=by simp;omega
    clear h hrg
    by_cases hn0:n=0
    ·subst hn0
     go_wp2_with fail
     go_ret
     refine ⟨ret_bool ?_,rfl⟩
     rw [HPOS.out,nameAt_none s 0 hlt (HLEN.out (by have:=HH.out;unfold letterB;simp;omega))]
     simp;omega
    ·have hn1:(0:Int)<(n:Int):=by omega
     go_wp2_with fail
     go_ret
     refine ⟨ret_bool ?_,rfl⟩
     have hz:=runAt_stop s n hlt (HLEN.out (by have:=HH.out;unfold letterB;simp;omega)) (HDIN.out (by have:=HH.out;unfold digitB;simp;omega))
     rw [HPOS.out,← HRA.out.resolve_left hn0,hz]
     simp;omega
   ·have HH:=Hd h
    have g97:¬ 97≤byteI s n:=by omega
    have g65:65≤byteI s n:=by omega
    have g48:48≤byteI s n:=by omega
    have g122:byteI s n≤122:=by omega
    have g90:byteI s n≤90:=by omega
    have g57:¬ byteI s n≤57:=by omega
    have g95:(byteI s n==95)=false:=by simp;omega
    clear h hrg
    go_wp2_with fail
    go_round
    case rel=>exact ⟨n+1,by omega,by go_num,.inr (by
     have hz:=runAt_letter s n hlt (HLET.out (by have:=HH.out;unfold letterB;simp;omega))
     rcases HRA.out with h0 | h0
     ·subst h0
      rw [nameAt_letter s 0 hlt (HLET.out (by have:=HH.out;unfold letterB;simp;omega))]
      omega
     ·omega)⟩
    case measure=>simp [intOf];omega
   ·have HH:=Hd h
    have g97:¬ 97≤byteI s n:=by omega
    have g65:65≤byteI s n:=by omega
    have g48:48≤byteI s n:=by omega
    have g122:byteI s n≤122:=by omega
    have g90:¬ byteI s n≤90:=by omega
    have g57:¬ byteI s n≤57:=by omega
    have g95:(byteI s n==95)=false:=by simp;omega
    clear h hrg
    by_cases hn0:n=0
    ·subst hn0
     go_wp2_with fail
     go_ret
     refine ⟨ret_bool ?_,rfl⟩
     rw [HPOS.out,nameAt_none s 0 hlt (HLEN.out (by have:=HH.out;unfold letterB;simp;omega))]
     simp;omega
    ·have hn1:(0:Int)<(n:Int):=by omega
     go_wp2_with fail
     go_ret
     refine ⟨ret_bool ?_,rfl⟩
     have hz:=runAt_stop s n hlt (HLEN.out (by have:=HH.out;unfold letterB;simp;omega)) (HDIN.out (by have:=HH.out;unfold digitB;simp;omega))
     rw [HPOS.out,← HRA.out.resolve_left hn0,hz]
     simp;omega
   ·have HH:=Hd h
    have g97:¬ 97≤byteI s n:=by omega
    have g65:65≤byteI s n:=by omega
    have g48:48≤byteI s n:=by omega
    have g122:byteI s n≤122:=by omega
    have g90:¬ byteI s n≤90:=by omega
    have g57:¬ byteI s n≤57:=by omega
    have g95:(byteI s n==95)=true:=by simp;omega
    clear h hrg
    go_wp2_with fail
    go_round
    case rel=>exact ⟨n+1,by omega,by go_num,.inr (by
     have hz:=runAt_letter s n hlt (HLET.out (by have:=HH.out;unfold letterB;simp;omega))
     rcases HRA.out with h0 | h0
     ·subst h0
      rw [nameAt_letter s 0 hlt (HLET.out (by have:=HH.out;unfold letterB;simp;omega))]
      omega
     ·omega)⟩
    case measure=>simp [intOf];omega
   ·have HH:=Hd h
    have g97:¬ 97≤byteI s n:=by omega
    have g65:65≤byteI s n:=by omega
    have g48:48≤byteI s n:=by omega
    have g122:byteI s n≤122:=by omega
    have g90:¬ byteI s n≤90:=by omega
    have g57:¬ byteI s n≤57:=by omega
    have g95:(byteI s n==95)=false:=by simp;omega
    clear h hrg
    by_cases hn0:n=0
    ·subst hn0
     go_wp2_with fail
     go_ret
     refine ⟨ret_bool ?_,rfl⟩
     rw [HPOS.out,nameAt_none s 0 hlt (HLEN.out (by have:=HH.out;unfold letterB;simp;omega))]
     simp;omega
    ·have hn1:(0:Int)<(n:Int):=by omega
     go_wp2_with fail
     go_ret
     refine ⟨ret_bool ?_,rfl⟩
     have hz:=runAt_stop s n hlt (HLEN.out (by have:=HH.out;unfold letterB;simp;omega)) (HDIN.out (by have:=HH.out;unfold digitB;simp;omega))
     rw [HPOS.out,← HRA.out.resolve_left hn0,hz]
     simp;omega
   ·have HH:=Hd h
    have g97:97≤byteI s n:=by omega
    have g65:65≤byteI s n:=by omega
    have g48:48≤byteI s n:=by omega
    have g122:byteI s n≤122:=by omega
    have g90:¬ byteI s n≤90:=by omega
    have g57:¬ byteI s n≤57:=by omega
    have g95:(byteI s n==95)=false:=by simp;omega
    clear h hrg
    go_wp2_with fail
    go_round
    case rel=>exact ⟨n+1,by omega,by go_num,.inr (by
     have hz:=runAt_letter s n hlt (HLET.out (by have:=HH.out;unfold letterB;simp;omega))
     rcases HRA.out with h0 | h0
     ·subst h0
      rw [nameAt_letter s 0 hlt (HLET.out (by have:=HH.out;unfold letterB;simp;omega))]
      omega
     ·omega)⟩
    case measure=>simp [intOf];omega
   ·have HH:=Hd h
    have g97:97≤byteI s n:=by omega
    have g65:65≤byteI s n:=by omega
    have g48:48≤byteI s n:=by omega
    have g122:¬ byteI s n≤122:=by omega
    have g90:¬ byteI s n≤90:=by omega
    have g57:¬ byteI s n≤57:=by omega
    have g95:(byteI s n==95)=false:=by simp;omega
    clear h hrg
    by_cases hn0:n=0
    ·subst hn0
     go_wp2_with fail
     go_ret
     refine ⟨ret_bool ?_,rfl⟩
     rw [HPOS.out,nameAt_none s 0 hlt (HLEN.out (by have:=HH.out;unfold letterB;simp;omega))]
     simp;omega
    ·have hn1:(0:Int)<(n:Int):=by omega
     go_wp2_with fail
     go_ret
     refine ⟨ret_bool ?_,rfl⟩
     have hz:=runAt_stop s n hlt (HLEN.out (by have:=HH.out;unfold letterB;simp;omega)) (HDIN.out (by have:=HH.out;unfold digitB;simp;omega))
     rw [HPOS.out,← HRA.out.resolve_left hn0,hz]
     simp;omega
  ·have hne:n=s.size:=by omega
   subst hne
   have hze:=runAt_end s s.size (Nat.le_refl _)
   by_cases h0:s.toList=[]
   ·have hz:s.size=0:=by
     rw [ByteArray.toList_eq] at h0
     have:s.data.size=s.size:=rfl
     rw [← this,← Array.length_toList,h0];rfl
    have HF:=Hd (show nameB s=false by simp [nameB,hz])
    clear hr hz hze
    go_wp2_with fail
    go_ret
    exact ⟨ret_bool HF.out.symm,rfl⟩
   ·have hz:0<s.size:=by
     rw [ByteArray.toList_eq] at h0
     have:s.data.size=s.size:=rfl
     rw [← this,← Array.length_toList]
     exact List.length_pos_iff.2 h0
    have h1:(!s.toList.isEmpty)=true:=by simpa using h0
    have HF:=Hd (show nameB s=true by
     rcases hr with h | h
     ·omega
     ·simp [nameB,hz,← h,hze])
    clear hr hz hze
    go_wp2_with fail
    go_ret
    exact ⟨ret_bool HF.out.symm,rfl⟩
end Go.Proofs.YtiefeajappjnbaaGreatDoor

/- qparse.postfixed: the source of a field, an index, a slice, an each (printed by genpst36.py). -/
namespace Go.Proofs.YtiefeajappjnbaaGreatDoor
open Go.RowKit
theorem args_at {x:ExprD} {w:World} {B N n:Nat} {aa fa:Option Addr} {ac fc:Nat} {cs vs:List Value} (hh:ExprD.Has w B N x cs aa fa ac fc vs) (hn:x.args.length=n) (h0:0<n):∃ b o,aa=some ⟨b,o,none⟩∧b<B∧∀ k,k<n→∃ a,CellsAt w b (o+k * 17) a∧ExprD.At w B N (x.args.getD k default) a:=by
 obtain ⟨b,o,rfl,hb,hget⟩:=hh.atArgs.get (by intro h;rw [h] at hn;simp at hn;omega)
 refine ⟨b,o,rfl,hb,fun k hk=>?_⟩
 obtain ⟨a,h1,h2⟩:=hget k (by omega)
 exact ⟨a,h1,by rw [List.getD_eq_getElem?_getD,List.getElem?_eq_getElem (by omega)];exact h2⟩
theorem pres_le {f:ExprD→ByteArray} {y:ExprD} (h:y.op≠30→KidP f y):(presS f y).size≤274877906944:=by
 unfold presS
 by_cases h3:y.op=30
 ·rw [if_pos h3];exact Nat.zero_le _
 ·rw [if_neg h3];exact (h h3).size
set_option maxRecDepth 100000 in
set_option maxHeartbeats 6400000 in
theorem post_8 (f:ExprD→ByteArray) (x:ExprD) (ho:x.op=8) (hn:x.args.length=1) (k0:KidP f (x.args.getD 0 default))
 (w:World) (B N:Nat) (cs:List Value) (hN:N≤1048576) (hB:B≤w.heap.size) (hE:Env w) (hx:ExprD.At w B N x cs):Calls Tryz.prog 57 #[.agg cs.toArray] w (StrB (stepT f x) w):=by
 have HX:=Hd hx
 have HE:=Hd hE
 have K0:=Hd k0
 have HO:=Hd ho
 obtain ⟨aa,fa,ac,fc,vs,hh⟩:=hx.has
 have HC0:=Hd (show cs[0]?=some (.int .i64 8) by rw [← ho];exact hh.op)
 have hnm:=Hd (show x.name.size≤1048576 from Nat.le_trans hh.own.2.1 hN)
 obtain ⟨nm,hnm2⟩:∃ nm,x.name=nm:=⟨_,rfl⟩
 have HNE:=Hd hnm2
 have znm:nm.size≤1048576:=by rw [← hnm2];exact hnm.out
 have HC1:=Hd (show cs[1]?=some (.string nm) by rw [← hnm2];exact hh.name)
 obtain ⟨b,o,haa,hb,hget⟩:=args_at hh (n:=1) hn (by decide)
 have HC15:=Hd (show cs[15]?=some (.slice (some ⟨b,o,none⟩) 1 ac) by rw [hh.args,hn,haa])
 obtain ⟨a0,r0,q0⟩:=hget 0 (by decide)
 have HR0:=Hd (show CellsAt w b (o) a0 by simpa using r0)
 have HQ0:=Hd q0
 have hl0:=Hd (show (Tryz.prog.info? 34).map (·.size)=some a0.length by rw [q0.len];kernel_rfl)
 obtain ⟨w1,hw1⟩:∃ w1,w1=w.alloc (.cells cs.toArray 34):=⟨_,rfl⟩
 have HW:=Hd hw1
 have R0:=Hd (show RowT 34 w1 w.heap.size cs by rw [hw1];exact RowT.new w 34 cs)
 have H0:=Hd (show Below w.heap.size w w1 by rw [hw1];exact belowBox w _)
 have HKA:=Hd (show ∀ v,Below w.heap.size w v→B≤v.heap.size∧Env v∧ExprD.At v B N (x.args.getD 0 default) a0∧True from fun v hv=>⟨Nat.le_trans hB hv.size,HE.out.then hv,HQ0.out.below (hv.mono hB),trivial⟩)
 have e0:=R0.out.cell HC0.out
 have e1:=R0.out.cell HC1.out
 have e15:=R0.out.cell HC15.out
 rw [hw1] at e0 e1 e15
 obtain ⟨s,hs⟩:∃ s,stepT f x=s:=⟨_,rfl⟩
 have HST:=Hd hs
 obtain ⟨s0,hs0⟩:∃ s0,atS f 10 (x.args.getD 0 default)=s0:=⟨_,rfl⟩
 have HS0:=Hd hs0
 have z0:s0.size≤274877906946:=by rw [← hs0];exact Nat.le_trans (atS_le f _ _) (Nat.add_le_add_right K0.out.size 2)
 have HR:=Hd (show s=s0++⟨#[91,93]⟩ by
  rw [← HST.out]
  unfold stepT
  rw [HO.out]
  simp only [if_true,if_false,Int.reduceEq]
  rw [hs0])
 clear hx hE hh k0 ho hn haa hget hnm2 hw1 hs hs0
 go_enter Tryz.func57,Tryz.ntmps57
 go_wp2_with ((with_reducible show wpList _ _ _ (⟨some 7,_,_,_,_,_⟩::_) _ _);refine wpList_load_mid rfl 34 _ rfl b o rfl a0 _ (by rw [← HW.out];exact (HR0.out.below (H0.out.mono hB) hb).range) Tryz.underlying34 rfl hl0.out ?_)
 rw [← HW.out]
 refine (arg_p f _ K0.out 10 _ B N a0 hN (HKA.out _ H0.out).1 (HKA.out _ H0.out).2.1 (HKA.out _ H0.out).2.2.1).mono ?_
 rw [HS0.out]
 rintro e wu ⟨rfl,hb1⟩
 have HU:=Hd (belowThen H0.out hb1)
 have RU:=Hd (R0.out.then hb1)
 clear hb1 e0 e1 e15
 have e0:=RU.out.cell HC0.out
 have e1:=RU.out.cell HC1.out
 have e15:=RU.out.cell HC15.out
 have sc0:(s0:ByteArray).size+(⟨#[91,93]⟩:ByteArray).size≤9223372036854775807:=by (repeat rw [ByteArray.size_append]);simp only [szl,List.size_toArray,List.length_cons,List.length_nil];omega
 go_wp2_with fail
 go_ret
 exact ⟨by rw [HST.out,HR.out];rfl,HU.out⟩
set_option maxRecDepth 100000 in
set_option maxHeartbeats 6400000 in
theorem post_6 (f:ExprD→ByteArray) (x:ExprD) (ho:x.op=6) (hn:x.args.length=2) (k0:KidP f (x.args.getD 0 default)) (k1:KidP f (x.args.getD 1 default))
 (w:World) (B N:Nat) (cs:List Value) (hN:N≤1048576) (hB:B≤w.heap.size) (hE:Env w) (hx:ExprD.At w B N x cs):Calls Tryz.prog 57 #[.agg cs.toArray] w (StrB (stepT f x) w):=by
 have HX:=Hd hx
 have HE:=Hd hE
 have K0:=Hd k0
 have HO:=Hd ho
 have K1:=Hd k1
 obtain ⟨aa,fa,ac,fc,vs,hh⟩:=hx.has
 have HC0:=Hd (show cs[0]?=some (.int .i64 6) by rw [← ho];exact hh.op)
 have hnm:=Hd (show x.name.size≤1048576 from Nat.le_trans hh.own.2.1 hN)
 obtain ⟨nm,hnm2⟩:∃ nm,x.name=nm:=⟨_,rfl⟩
 have HNE:=Hd hnm2
 have znm:nm.size≤1048576:=by rw [← hnm2];exact hnm.out
 have HC1:=Hd (show cs[1]?=some (.string nm) by rw [← hnm2];exact hh.name)
 obtain ⟨b,o,haa,hb,hget⟩:=args_at hh (n:=2) hn (by decide)
 have HC15:=Hd (show cs[15]?=some (.slice (some ⟨b,o,none⟩) 2 ac) by rw [hh.args,hn,haa])
 obtain ⟨a0,r0,q0⟩:=hget 0 (by decide)
 have HR0:=Hd (show CellsAt w b (o) a0 by simpa using r0)
 have HQ0:=Hd q0
 have hl0:=Hd (show (Tryz.prog.info? 34).map (·.size)=some a0.length by rw [q0.len];kernel_rfl)
 obtain ⟨a1,r1,q1⟩:=hget 1 (by decide)
 have HR1:=Hd (show CellsAt w b (o+17) a1 by simpa using r1)
 have HQ1:=Hd q1
 have hl1:=Hd (show (Tryz.prog.info? 34).map (·.size)=some a1.length by rw [q1.len];kernel_rfl)
 obtain ⟨w1,hw1⟩:∃ w1,w1=w.alloc (.cells cs.toArray 34):=⟨_,rfl⟩
 have HW:=Hd hw1
 have R0:=Hd (show RowT 34 w1 w.heap.size cs by rw [hw1];exact RowT.new w 34 cs)
 have H0:=Hd (show Below w.heap.size w w1 by rw [hw1];exact belowBox w _)
 have HKA:=Hd (show ∀ v,Below w.heap.size w v→B≤v.heap.size∧Env v∧ExprD.At v B N (x.args.getD 0 default) a0∧ExprD.At v B N (x.args.getD 1 default) a1∧True from fun v hv=>⟨Nat.le_trans hB hv.size,HE.out.then hv,HQ0.out.below (hv.mono hB),HQ1.out.below (hv.mono hB),trivial⟩)
 have e0:=R0.out.cell HC0.out
 have e1:=R0.out.cell HC1.out
 have e15:=R0.out.cell HC15.out
 rw [hw1] at e0 e1 e15
 obtain ⟨s,hs⟩:∃ s,stepT f x=s:=⟨_,rfl⟩
 have HST:=Hd hs
 obtain ⟨s0,hs0⟩:∃ s0,atS f 10 (x.args.getD 0 default)=s0:=⟨_,rfl⟩
 have HS0:=Hd hs0
 have z0:s0.size≤274877906946:=by rw [← hs0];exact Nat.le_trans (atS_le f _ _) (Nat.add_le_add_right K0.out.size 2)
 obtain ⟨s1,hs1⟩:∃ s1,f (x.args.getD 1 default)=s1:=⟨_,rfl⟩
 have HS1:=Hd hs1
 have z1:s1.size≤274877906944:=by rw [← hs1];exact K1.out.size
 have HR:=Hd (show s=s0++⟨#[91]⟩++s1++⟨#[93]⟩ by
  rw [← HST.out]
  unfold stepT
  rw [HO.out]
  simp only [if_true,if_false,Int.reduceEq]
  rw [hs0,hs1])
 clear hx hE hh k0 ho hn haa hget hnm2 hw1 hs hs0 k1 hs1
 go_enter Tryz.func57,Tryz.ntmps57
 go_wp2_with ((with_reducible show wpList _ _ _ (⟨some 7,_,_,_,_,_⟩::_) _ _);refine wpList_load_mid rfl 34 _ rfl b o rfl a0 _ (by rw [← HW.out];exact (HR0.out.below (H0.out.mono hB) hb).range) Tryz.underlying34 rfl hl0.out ?_)
 rw [← HW.out]
 refine (arg_p f _ K0.out 10 _ B N a0 hN (HKA.out _ H0.out).1 (HKA.out _ H0.out).2.1 (HKA.out _ H0.out).2.2.1).mono ?_
 rw [HS0.out]
 rintro e wu ⟨rfl,hb1⟩
 have HU:=Hd (belowThen H0.out hb1)
 have RU:=Hd (R0.out.then hb1)
 clear hb1 e0 e1 e15
 have e0:=RU.out.cell HC0.out
 have e1:=RU.out.cell HC1.out
 have e15:=RU.out.cell HC15.out
 have sc0:(s0:ByteArray).size+(⟨#[91]⟩:ByteArray).size≤9223372036854775807:=by (repeat rw [ByteArray.size_append]);simp only [szl,List.size_toArray,List.length_cons,List.length_nil];omega
 have sc1:(s0++⟨#[91]⟩:ByteArray).size+(s1:ByteArray).size≤9223372036854775807:=by (repeat rw [ByteArray.size_append]);simp only [szl,List.size_toArray,List.length_cons,List.length_nil];omega
 have sc2:(s0++⟨#[91]⟩++s1:ByteArray).size+(⟨#[93]⟩:ByteArray).size≤9223372036854775807:=by (repeat rw [ByteArray.size_append]);simp only [szl,List.size_toArray,List.length_cons,List.length_nil];omega
 go_wp2_with ((with_reducible show wpList _ _ _ (⟨some 40,_,_,_,_,_⟩::_) _ _);refine wpList_load_mid rfl 34 _ rfl b (o+17) rfl a1 _ (HR1.out.below (HU.out.mono hB) hb).range Tryz.underlying34 rfl hl1.out ?_)
 refine (arg_p f _ K1.out 0 _ B N a1 hN (HKA.out _ HU.out).1 (HKA.out _ HU.out).2.1 (HKA.out _ HU.out).2.2.2.1).mono ?_
 rw [atS_0,HS1.out]
 rintro e wv ⟨rfl,hb2⟩
 have HV:=Hd (belowThen HU.out hb2)
 clear hb2
 go_wp2_with fail
 go_ret
 exact ⟨by rw [HST.out,HR.out];rfl,HV.out⟩
set_option maxRecDepth 100000 in
set_option maxHeartbeats 6400000 in
theorem post_7 (f:ExprD→ByteArray) (x:ExprD) (ho:x.op=7) (hn:x.args.length=3) (k0:KidP f (x.args.getD 0 default)) (k1:(x.args.getD 1 default).op≠30→KidP f (x.args.getD 1 default)) (k2:(x.args.getD 2 default).op≠30→KidP f (x.args.getD 2 default))
 (w:World) (B N:Nat) (cs:List Value) (hN:N≤1048576) (hB:B≤w.heap.size) (hE:Env w) (hx:ExprD.At w B N x cs):Calls Tryz.prog 57 #[.agg cs.toArray] w (StrB (stepT f x) w):=by
 have HX:=Hd hx
 have HE:=Hd hE
 have K0:=Hd k0
 have HO:=Hd ho
 have K1:=Hd k1
 have K2:=Hd k2
 obtain ⟨aa,fa,ac,fc,vs,hh⟩:=hx.has
 have HC0:=Hd (show cs[0]?=some (.int .i64 7) by rw [← ho];exact hh.op)
 have hnm:=Hd (show x.name.size≤1048576 from Nat.le_trans hh.own.2.1 hN)
 obtain ⟨nm,hnm2⟩:∃ nm,x.name=nm:=⟨_,rfl⟩
 have HNE:=Hd hnm2
 have znm:nm.size≤1048576:=by rw [← hnm2];exact hnm.out
 have HC1:=Hd (show cs[1]?=some (.string nm) by rw [← hnm2];exact hh.name)
 obtain ⟨b,o,haa,hb,hget⟩:=args_at hh (n:=3) hn (by decide)
 have HC15:=Hd (show cs[15]?=some (.slice (some ⟨b,o,none⟩) 3 ac) by rw [hh.args,hn,haa])
 obtain ⟨a0,r0,q0⟩:=hget 0 (by decide)
 have HR0:=Hd (show CellsAt w b (o) a0 by simpa using r0)
 have HQ0:=Hd q0
 have hl0:=Hd (show (Tryz.prog.info? 34).map (·.size)=some a0.length by rw [q0.len];kernel_rfl)
 obtain ⟨a1,r1,q1⟩:=hget 1 (by decide)
 have HR1:=Hd (show CellsAt w b (o+17) a1 by simpa using r1)
 have HQ1:=Hd q1
 have hl1:=Hd (show (Tryz.prog.info? 34).map (·.size)=some a1.length by rw [q1.len];kernel_rfl)
 obtain ⟨a2,r2,q2⟩:=hget 2 (by decide)
 have HR2:=Hd (show CellsAt w b (o+34) a2 by simpa using r2)
 have HQ2:=Hd q2
 have hl2:=Hd (show (Tryz.prog.info? 34).map (·.size)=some a2.length by rw [q2.len];kernel_rfl)
 obtain ⟨w1,hw1⟩:∃ w1,w1=w.alloc (.cells cs.toArray 34):=⟨_,rfl⟩
 have HW:=Hd hw1
 have R0:=Hd (show RowT 34 w1 w.heap.size cs by rw [hw1];exact RowT.new w 34 cs)
 have H0:=Hd (show Below w.heap.size w w1 by rw [hw1];exact belowBox w _)
 have HKA:=Hd (show ∀ v,Below w.heap.size w v→B≤v.heap.size∧Env v∧ExprD.At v B N (x.args.getD 0 default) a0∧ExprD.At v B N (x.args.getD 1 default) a1∧ExprD.At v B N (x.args.getD 2 default) a2∧True from fun v hv=>⟨Nat.le_trans hB hv.size,HE.out.then hv,HQ0.out.below (hv.mono hB),HQ1.out.below (hv.mono hB),HQ2.out.below (hv.mono hB),trivial⟩)
 have e0:=R0.out.cell HC0.out
 have e1:=R0.out.cell HC1.out
 have e15:=R0.out.cell HC15.out
 rw [hw1] at e0 e1 e15
 obtain ⟨s,hs⟩:∃ s,stepT f x=s:=⟨_,rfl⟩
 have HST:=Hd hs
 obtain ⟨s0,hs0⟩:∃ s0,atS f 10 (x.args.getD 0 default)=s0:=⟨_,rfl⟩
 have HS0:=Hd hs0
 have z0:s0.size≤274877906946:=by rw [← hs0];exact Nat.le_trans (atS_le f _ _) (Nat.add_le_add_right K0.out.size 2)
 obtain ⟨s1,hs1⟩:∃ s1,presS f (x.args.getD 1 default)=s1:=⟨_,rfl⟩
 have HS1:=Hd hs1
 have z1:s1.size≤274877906944:=by rw [← hs1];exact pres_le K1.out
 obtain ⟨s2,hs2⟩:∃ s2,presS f (x.args.getD 2 default)=s2:=⟨_,rfl⟩
 have HS2:=Hd hs2
 have z2:s2.size≤274877906944:=by rw [← hs2];exact pres_le K2.out
 have HR:=Hd (show s=s0++⟨#[91]⟩++s1++⟨#[58]⟩++s2++⟨#[93]⟩ by
  rw [← HST.out]
  unfold stepT
  rw [HO.out]
  simp only [if_true,if_false,Int.reduceEq]
  rw [hs0,hs1,hs2])
 clear hx hE hh k0 ho hn haa hget hnm2 hw1 hs hs0 k1 k2 hs1 hs2
 go_enter Tryz.func57,Tryz.ntmps57
 go_wp2_with ((with_reducible show wpList _ _ _ (⟨some 7,_,_,_,_,_⟩::_) _ _);refine wpList_load_mid rfl 34 _ rfl b o rfl a0 _ (by rw [← HW.out];exact (HR0.out.below (H0.out.mono hB) hb).range) Tryz.underlying34 rfl hl0.out ?_)
 rw [← HW.out]
 refine (arg_p f _ K0.out 10 _ B N a0 hN (HKA.out _ H0.out).1 (HKA.out _ H0.out).2.1 (HKA.out _ H0.out).2.2.1).mono ?_
 rw [HS0.out]
 rintro e wu ⟨rfl,hb1⟩
 have HU:=Hd (belowThen H0.out hb1)
 have RU:=Hd (R0.out.then hb1)
 clear hb1 e0 e1 e15
 have e0:=RU.out.cell HC0.out
 have e1:=RU.out.cell HC1.out
 have e15:=RU.out.cell HC15.out
 go_wp2_with fail
 refine wp_region_held_drew (S:=fun u=>Below wu.heap.size wu u) (by kernel_rfl) (drewU wu) (fun hHeld=>?_)
 refine' tk 0 (.string s0) rfl rfl (.inl ⟨by rfl,fun u hu=>(by go_simp)⟩) hHeld ?_
 simp only [sq1,sq0]
 refine' tk 1 (.string (s0++⟨#[91]⟩)) rfl rfl (.inl ⟨by rfl,fun u hu=>(by go_simp;all_goals omega)⟩) hHeld ?_
 simp only [sq1,sq0]
 refine' tk 2 (.pointer (some ⟨w.heap.size,15,none⟩)) rfl rfl (.inl ⟨by rfl,fun u hu=>(by go_simp)⟩) hHeld ?_
 simp only [sq1,sq0]
 refine' tk 3 (.slice (some ⟨b,o,none⟩) 3 ac) rfl rfl (.inl ⟨by rfl,fun u hu=>(by have hc:=(RU.out.then hu).cell HC15.out;go_simp)⟩) hHeld ?_
 simp only [sq1,sq0]
 refine' tk 4 (.pointer (some ⟨b,o+17,none⟩)) rfl rfl (.inl ⟨by rfl,fun u hu=>(by go_simp)⟩) hHeld ?_
 simp only [sq1,sq0]
 refine' tk 5 _ rfl rfl (yieldsIf_load_mid (by kernel_rfl) 34 _ rfl (b) (o+17) rfl a1 _ (fun u hu=>(HR1.out.below ((belowThen HU.out hu).mono hB) hb).range) Tryz.underlying34 rfl hl1.out) hHeld ?_
 simp only [sq1,sq0]
 refine' tk 9 (.pointer (some ⟨w.heap.size,15,none⟩)) rfl rfl (.inl ⟨by rfl,fun u hu=>(by go_simp)⟩) hHeld ?_
 simp only [sq1,sq0]
 refine' tk 10 (.slice (some ⟨b,o,none⟩) 3 ac) rfl rfl (.inl ⟨by rfl,fun u hu=>(by have hc:=(RU.out.then hu).cell HC15.out;go_simp)⟩) hHeld ?_
 simp only [sq1,sq0]
 refine' tk 11 (.pointer (some ⟨b,o+34,none⟩)) rfl rfl (.inl ⟨by rfl,fun u hu=>(by go_simp)⟩) hHeld ?_
 simp only [sq1,sq0]
 refine' tk 12 _ rfl rfl (yieldsIf_load_mid (by kernel_rfl) 34 _ rfl (b) (o+34) rfl a2 _ (fun u hu=>(HR2.out.below ((belowThen HU.out hu).mono hB) hb).range) Tryz.underlying34 rfl hl2.out) hHeld ?_
 simp only [sq1,sq0]
 refine rd1 6 rfl (fun K hK=>?_)
 go_simp
 refine (present_p f _ K1.out _ B N a1 hN (HKA.out _ (belowThen HU.out hHeld)).1 (HKA.out _ (belowThen HU.out hHeld)).2.1 (HKA.out _ (belowThen HU.out hHeld)).2.2.2.1).mono ?_
 rw [HS1.out]
 rintro e uC1 ⟨rfl,hbC⟩
 refine hK.out _ _ (belowThen hHeld hbC) (fun hHeld1=>?_)
 clear hK K hbC hHeld
 have hHeld:=hHeld1
 clear hHeld1
 refine' tk 7 (.string ((s0++⟨#[91]⟩)++s1)) rfl rfl (.inl ⟨by rfl,fun u hu=>(by go_simp;all_goals omega)⟩) hHeld ?_
 simp only [sq1,sq0]
 refine' tk 8 (.string (((s0++⟨#[91]⟩)++s1)++⟨#[58]⟩)) rfl rfl (.inl ⟨by rfl,fun u hu=>(by go_simp;all_goals omega)⟩) hHeld ?_
 simp only [sq1,sq0]
 refine rd1 13 rfl (fun K hK=>?_)
 go_simp
 refine (present_p f _ K2.out _ B N a2 hN (HKA.out _ (belowThen HU.out hHeld)).1 (HKA.out _ (belowThen HU.out hHeld)).2.1 (HKA.out _ (belowThen HU.out hHeld)).2.2.2.2.1).mono ?_
 rw [HS2.out]
 rintro e uC2 ⟨rfl,hbC⟩
 refine hK.out _ _ (belowThen hHeld hbC) (fun hHeld2=>?_)
 clear hK K hbC hHeld
 have hHeld:=hHeld2
 clear hHeld2
 refine' tk 14 (.string ((((s0++⟨#[91]⟩)++s1)++⟨#[58]⟩)++s2)) rfl rfl (.inl ⟨by rfl,fun u hu=>(by go_simp;all_goals omega)⟩) hHeld ?_
 simp only [sq1,sq0]
 refine' tk 15 (.string (((((s0++⟨#[91]⟩)++s1)++⟨#[58]⟩)++s2)++⟨#[93]⟩)) rfl rfl (.inl ⟨by rfl,fun u hu=>(by go_simp;all_goals omega)⟩) hHeld ?_
 simp only [sq1,sq0]
 refine rd1 16 rfl (fun K hK=>?_)
 go_simp
 refine hK.out _ _ hHeld (fun hHeldx=>?_)
 clear hK K hHeldx
 refine wpAnyH_done (by kernel_rfl) ?_ _
 go_wp2_with fail
 go_ret
 exact ⟨by rw [HST.out,HR.out];rfl,belowThen HU.out hHeld⟩
set_option maxRecDepth 100000 in
set_option maxHeartbeats 6400000 in
theorem post_5_in (f:ExprD→ByteArray) (x:ExprD) (ho:x.op=5) (hn:x.args.length=1) (k0:KidP f (x.args.getD 0 default)) (hi:(x.args.getD 0 default).op=1) (hna:nameB x.name=true) (hq:validS x.name=true∧x.name.size≤1024)
 (w:World) (B N:Nat) (cs:List Value) (hN:N≤1048576) (hB:B≤w.heap.size) (hE:Env w) (hx:ExprD.At w B N x cs):Calls Tryz.prog 57 #[.agg cs.toArray] w (StrB (stepT f x) w):=by
 have HX:=Hd hx
 have HE:=Hd hE
 have K0:=Hd k0
 have HO:=Hd ho
 have HI:=Hd hi
 have HNA:=Hd hna
 have HQ:=Hd hq
 obtain ⟨aa,fa,ac,fc,vs,hh⟩:=hx.has
 have HC0:=Hd (show cs[0]?=some (.int .i64 5) by rw [← ho];exact hh.op)
 have hnm:=Hd (show x.name.size≤1048576 from Nat.le_trans hh.own.2.1 hN)
 obtain ⟨nm,hnm2⟩:∃ nm,x.name=nm:=⟨_,rfl⟩
 have HNE:=Hd hnm2
 have znm:nm.size≤1048576:=by rw [← hnm2];exact hnm.out
 have HC1:=Hd (show cs[1]?=some (.string nm) by rw [← hnm2];exact hh.name)
 obtain ⟨b,o,haa,hb,hget⟩:=args_at hh (n:=1) hn (by decide)
 have HC15:=Hd (show cs[15]?=some (.slice (some ⟨b,o,none⟩) 1 ac) by rw [hh.args,hn,haa])
 obtain ⟨a0,r0,q0⟩:=hget 0 (by decide)
 have HR0:=Hd (show CellsAt w b (o) a0 by simpa using r0)
 have HQ0:=Hd q0
 have hl0:=Hd (show (Tryz.prog.info? 34).map (·.size)=some a0.length by rw [q0.len];kernel_rfl)
 obtain ⟨w1,hw1⟩:∃ w1,w1=w.alloc (.cells cs.toArray 34):=⟨_,rfl⟩
 have HW:=Hd hw1
 have R0:=Hd (show RowT 34 w1 w.heap.size cs by rw [hw1];exact RowT.new w 34 cs)
 have H0:=Hd (show Below w.heap.size w w1 by rw [hw1];exact belowBox w _)
 have HKA:=Hd (show ∀ v,Below w.heap.size w v→B≤v.heap.size∧Env v∧ExprD.At v B N (x.args.getD 0 default) a0∧True from fun v hv=>⟨Nat.le_trans hB hv.size,HE.out.then hv,HQ0.out.below (hv.mono hB),trivial⟩)
 have e0:=R0.out.cell HC0.out
 have e1:=R0.out.cell HC1.out
 have e15:=R0.out.cell HC15.out
 rw [hw1] at e0 e1 e15
 have d0:=(r0.below (H0.out.mono hB) hb)
 obtain ⟨_,_,_,_,_,g0⟩:=q0.has
 obtain ⟨p0,hp0⟩:∃ p0,(x.args.getD 0 default).op=p0:=⟨_,rfl⟩
 have HP0:=Hd (show a0[0]?=some (.int .i64 p0) by rw [← hp0];exact g0.op)
 obtain ⟨s,hs⟩:∃ s,stepT f x=s:=⟨_,rfl⟩
 have HST:=Hd hs
 obtain ⟨s0,hs0⟩:∃ s0,atS f 10 (x.args.getD 0 default)=s0:=⟨_,rfl⟩
 have HS0:=Hd hs0
 have z0:s0.size≤274877906946:=by rw [← hs0];exact Nat.le_trans (atS_le f _ _) (Nat.add_le_add_right K0.out.size 2)
 have HR:=Hd (show s=⟨#[]⟩++⟨#[46]⟩++nm by
  rw [← HST.out]
  unfold stepT
  rw [HO.out]
  simp only [if_true,if_false,Int.reduceEq]
  rw [hs0,hnm2,show nameB nm=true by rw [← hnm2];exact HNA.out,if_pos HI.out,if_pos rfl])
 clear hx hE hh k0 ho hn haa hget hnm2 hw1 hs hs0 hi hna hq d0 g0
 go_enter Tryz.func57,Tryz.ntmps57
 go_wp2_with ((with_reducible show wpList _ _ _ (⟨some 7,_,_,_,_,_⟩::_) _ _);refine wpList_load_mid rfl 34 _ rfl b o rfl a0 _ (by rw [← HW.out];exact (HR0.out.below (H0.out.mono hB) hb).range) Tryz.underlying34 rfl hl0.out ?_)
 rw [← HW.out]
 refine (arg_p f _ K0.out 10 _ B N a0 hN (HKA.out _ H0.out).1 (HKA.out _ H0.out).2.1 (HKA.out _ H0.out).2.2.1).mono ?_
 rw [HS0.out]
 rintro e wu ⟨rfl,hb1⟩
 have HU:=Hd (belowThen H0.out hb1)
 have RU:=Hd (R0.out.then hb1)
 have q9:=((HR0.out.below (HU.out.mono hB) hb).get0' HP0.out)
 rw [show p0=1 by rw [← hp0];exact HI.out] at q9
 clear hp0
 clear hb1 e0 e1 e15
 have e0:=RU.out.cell HC0.out
 have e1:=RU.out.cell HC1.out
 have e15:=RU.out.cell HC15.out
 have sc0:(⟨#[]⟩:ByteArray).size+(⟨#[46]⟩:ByteArray).size≤9223372036854775807:=by (repeat rw [ByteArray.size_append]);simp only [szl,List.size_toArray,List.length_cons,List.length_nil];omega
 have sc1:(⟨#[]⟩++⟨#[46]⟩:ByteArray).size+(nm:ByteArray).size≤9223372036854775807:=by (repeat rw [ByteArray.size_append]);simp only [szl,List.size_toArray,List.length_cons,List.length_nil];omega
 go_wp2_with fail
 refine (isName_p nm _ (by unfold maxLen;omega)).mono ?_
 rintro e w' ⟨rfl,rfl⟩
 rw [show nameB nm=true by rw [← HNE.out];exact HNA.out]
 go_wp2_with fail
 go_ret
 exact ⟨by rw [HST.out,HR.out];rfl,HU.out⟩
set_option maxRecDepth 100000 in
set_option maxHeartbeats 6400000 in
theorem post_5_iq (f:ExprD→ByteArray) (x:ExprD) (ho:x.op=5) (hn:x.args.length=1) (k0:KidP f (x.args.getD 0 default)) (hi:(x.args.getD 0 default).op=1) (hna:nameB x.name=false) (hq:validS x.name=true∧x.name.size≤1024)
 (w:World) (B N:Nat) (cs:List Value) (hN:N≤1048576) (hB:B≤w.heap.size) (hE:Env w) (hx:ExprD.At w B N x cs):Calls Tryz.prog 57 #[.agg cs.toArray] w (StrB (stepT f x) w):=by
 have HX:=Hd hx
 have HE:=Hd hE
 have K0:=Hd k0
 have HO:=Hd ho
 have HI:=Hd hi
 have HNA:=Hd hna
 have HQ:=Hd hq
 obtain ⟨aa,fa,ac,fc,vs,hh⟩:=hx.has
 have HC0:=Hd (show cs[0]?=some (.int .i64 5) by rw [← ho];exact hh.op)
 have hnm:=Hd (show x.name.size≤1048576 from Nat.le_trans hh.own.2.1 hN)
 obtain ⟨nm,hnm2⟩:∃ nm,x.name=nm:=⟨_,rfl⟩
 have HNE:=Hd hnm2
 have znm:nm.size≤1048576:=by rw [← hnm2];exact hnm.out
 have HC1:=Hd (show cs[1]?=some (.string nm) by rw [← hnm2];exact hh.name)
 obtain ⟨b,o,haa,hb,hget⟩:=args_at hh (n:=1) hn (by decide)
 have HC15:=Hd (show cs[15]?=some (.slice (some ⟨b,o,none⟩) 1 ac) by rw [hh.args,hn,haa])
 obtain ⟨a0,r0,q0⟩:=hget 0 (by decide)
 have HR0:=Hd (show CellsAt w b (o) a0 by simpa using r0)
 have HQ0:=Hd q0
 have hl0:=Hd (show (Tryz.prog.info? 34).map (·.size)=some a0.length by rw [q0.len];kernel_rfl)
 obtain ⟨w1,hw1⟩:∃ w1,w1=w.alloc (.cells cs.toArray 34):=⟨_,rfl⟩
 have HW:=Hd hw1
 have R0:=Hd (show RowT 34 w1 w.heap.size cs by rw [hw1];exact RowT.new w 34 cs)
 have H0:=Hd (show Below w.heap.size w w1 by rw [hw1];exact belowBox w _)
 have HKA:=Hd (show ∀ v,Below w.heap.size w v→B≤v.heap.size∧Env v∧ExprD.At v B N (x.args.getD 0 default) a0∧True from fun v hv=>⟨Nat.le_trans hB hv.size,HE.out.then hv,HQ0.out.below (hv.mono hB),trivial⟩)
 have e0:=R0.out.cell HC0.out
 have e1:=R0.out.cell HC1.out
 have e15:=R0.out.cell HC15.out
 rw [hw1] at e0 e1 e15
 have d0:=(r0.below (H0.out.mono hB) hb)
 obtain ⟨_,_,_,_,_,g0⟩:=q0.has
 obtain ⟨p0,hp0⟩:∃ p0,(x.args.getD 0 default).op=p0:=⟨_,rfl⟩
 have HP0:=Hd (show a0[0]?=some (.int .i64 p0) by rw [← hp0];exact g0.op)
 obtain ⟨s,hs⟩:∃ s,stepT f x=s:=⟨_,rfl⟩
 have HST:=Hd hs
 obtain ⟨s0,hs0⟩:∃ s0,atS f 10 (x.args.getD 0 default)=s0:=⟨_,rfl⟩
 have HS0:=Hd hs0
 have z0:s0.size≤274877906946:=by rw [← hs0];exact Nat.le_trans (atS_le f _ _) (Nat.add_le_add_right K0.out.size 2)
 have HR:=Hd (show s=⟨#[]⟩++⟨#[46]⟩++quoteS nm by
  rw [← HST.out]
  unfold stepT
  rw [HO.out]
  simp only [if_true,if_false,Int.reduceEq]
  rw [hs0,hnm2,show nameB nm=false by rw [← hnm2];exact HNA.out,if_pos HI.out,if_neg (by decide)])
 clear hx hE hh k0 ho hn haa hget hnm2 hw1 hs hs0 hi hna hq d0 g0
 go_enter Tryz.func57,Tryz.ntmps57
 go_wp2_with ((with_reducible show wpList _ _ _ (⟨some 7,_,_,_,_,_⟩::_) _ _);refine wpList_load_mid rfl 34 _ rfl b o rfl a0 _ (by rw [← HW.out];exact (HR0.out.below (H0.out.mono hB) hb).range) Tryz.underlying34 rfl hl0.out ?_)
 rw [← HW.out]
 refine (arg_p f _ K0.out 10 _ B N a0 hN (HKA.out _ H0.out).1 (HKA.out _ H0.out).2.1 (HKA.out _ H0.out).2.2.1).mono ?_
 rw [HS0.out]
 rintro e wu ⟨rfl,hb1⟩
 have HU:=Hd (belowThen H0.out hb1)
 have RU:=Hd (R0.out.then hb1)
 have q9:=((HR0.out.below (HU.out.mono hB) hb).get0' HP0.out)
 rw [show p0=1 by rw [← hp0];exact HI.out] at q9
 clear hp0
 clear hb1 e0 e1 e15
 have e0:=RU.out.cell HC0.out
 have e1:=RU.out.cell HC1.out
 have e15:=RU.out.cell HC15.out
 have sc0:(⟨#[]⟩:ByteArray).size+(⟨#[46]⟩:ByteArray).size≤9223372036854775807:=by (repeat rw [ByteArray.size_append]);simp only [szl,List.size_toArray,List.length_cons,List.length_nil];omega
 have zq:=quoteS_size nm
 have sc1:(⟨#[]⟩++⟨#[46]⟩:ByteArray).size+(quoteS nm:ByteArray).size≤9223372036854775807:=by (repeat rw [ByteArray.size_append]);simp only [szl,List.size_toArray,List.length_cons,List.length_nil];omega
 clear zq
 go_wp2_with fail
 refine (isName_p nm _ (by unfold maxLen;omega)).mono ?_
 rintro e w' ⟨rfl,rfl⟩
 rw [show nameB nm=false by rw [← HNE.out];exact HNA.out]
 go_wp2_with fail
 refine (quote_w nm _ (by have:=HQ.out.2;rw [HNE.out] at this;omega) (HKA.out _ HU.out).2.1 (by rw [← HNE.out];exact HQ.out.1)).mono ?_
 rintro e wv ⟨rfl,hb2⟩
 have HV:=Hd (belowThen HU.out hb2)
 clear hb2
 go_wp2_with fail
 go_ret
 exact ⟨by rw [HST.out,HR.out];rfl,HV.out⟩
set_option maxRecDepth 100000 in
set_option maxHeartbeats 6400000 in
theorem post_5_an (f:ExprD→ByteArray) (x:ExprD) (ho:x.op=5) (hn:x.args.length=1) (k0:KidP f (x.args.getD 0 default)) (hi:(x.args.getD 0 default).op≠1) (hna:nameB x.name=true) (hq:validS x.name=true∧x.name.size≤1024)
 (w:World) (B N:Nat) (cs:List Value) (hN:N≤1048576) (hB:B≤w.heap.size) (hE:Env w) (hx:ExprD.At w B N x cs):Calls Tryz.prog 57 #[.agg cs.toArray] w (StrB (stepT f x) w):=by
 have HX:=Hd hx
 have HE:=Hd hE
 have K0:=Hd k0
 have HO:=Hd ho
 have HI:=Hd hi
 have HNA:=Hd hna
 have HQ:=Hd hq
 obtain ⟨aa,fa,ac,fc,vs,hh⟩:=hx.has
 have HC0:=Hd (show cs[0]?=some (.int .i64 5) by rw [← ho];exact hh.op)
 have hnm:=Hd (show x.name.size≤1048576 from Nat.le_trans hh.own.2.1 hN)
 obtain ⟨nm,hnm2⟩:∃ nm,x.name=nm:=⟨_,rfl⟩
 have HNE:=Hd hnm2
 have znm:nm.size≤1048576:=by rw [← hnm2];exact hnm.out
 have HC1:=Hd (show cs[1]?=some (.string nm) by rw [← hnm2];exact hh.name)
 obtain ⟨b,o,haa,hb,hget⟩:=args_at hh (n:=1) hn (by decide)
 have HC15:=Hd (show cs[15]?=some (.slice (some ⟨b,o,none⟩) 1 ac) by rw [hh.args,hn,haa])
 obtain ⟨a0,r0,q0⟩:=hget 0 (by decide)
 have HR0:=Hd (show CellsAt w b (o) a0 by simpa using r0)
 have HQ0:=Hd q0
 have hl0:=Hd (show (Tryz.prog.info? 34).map (·.size)=some a0.length by rw [q0.len];kernel_rfl)
 obtain ⟨w1,hw1⟩:∃ w1,w1=w.alloc (.cells cs.toArray 34):=⟨_,rfl⟩
 have HW:=Hd hw1
 have R0:=Hd (show RowT 34 w1 w.heap.size cs by rw [hw1];exact RowT.new w 34 cs)
 have H0:=Hd (show Below w.heap.size w w1 by rw [hw1];exact belowBox w _)
 have HKA:=Hd (show ∀ v,Below w.heap.size w v→B≤v.heap.size∧Env v∧ExprD.At v B N (x.args.getD 0 default) a0∧True from fun v hv=>⟨Nat.le_trans hB hv.size,HE.out.then hv,HQ0.out.below (hv.mono hB),trivial⟩)
 have e0:=R0.out.cell HC0.out
 have e1:=R0.out.cell HC1.out
 have e15:=R0.out.cell HC15.out
 rw [hw1] at e0 e1 e15
 have d0:=(r0.below (H0.out.mono hB) hb)
 obtain ⟨_,_,_,_,_,g0⟩:=q0.has
 obtain ⟨p0,hp0⟩:∃ p0,(x.args.getD 0 default).op=p0:=⟨_,rfl⟩
 have HP0:=Hd (show a0[0]?=some (.int .i64 p0) by rw [← hp0];exact g0.op)
 obtain ⟨s,hs⟩:∃ s,stepT f x=s:=⟨_,rfl⟩
 have HST:=Hd hs
 obtain ⟨s0,hs0⟩:∃ s0,atS f 10 (x.args.getD 0 default)=s0:=⟨_,rfl⟩
 have HS0:=Hd hs0
 have z0:s0.size≤274877906946:=by rw [← hs0];exact Nat.le_trans (atS_le f _ _) (Nat.add_le_add_right K0.out.size 2)
 have HR:=Hd (show s=s0++⟨#[46]⟩++nm by
  rw [← HST.out]
  unfold stepT
  rw [HO.out]
  simp only [if_true,if_false,Int.reduceEq]
  rw [hs0,hnm2,show nameB nm=true by rw [← hnm2];exact HNA.out,if_neg HI.out,if_pos rfl])
 clear hx hE hh k0 ho hn haa hget hnm2 hw1 hs hs0 hi hna hq d0 g0
 go_enter Tryz.func57,Tryz.ntmps57
 go_wp2_with ((with_reducible show wpList _ _ _ (⟨some 7,_,_,_,_,_⟩::_) _ _);refine wpList_load_mid rfl 34 _ rfl b o rfl a0 _ (by rw [← HW.out];exact (HR0.out.below (H0.out.mono hB) hb).range) Tryz.underlying34 rfl hl0.out ?_)
 rw [← HW.out]
 refine (arg_p f _ K0.out 10 _ B N a0 hN (HKA.out _ H0.out).1 (HKA.out _ H0.out).2.1 (HKA.out _ H0.out).2.2.1).mono ?_
 rw [HS0.out]
 rintro e wu ⟨rfl,hb1⟩
 have HU:=Hd (belowThen H0.out hb1)
 have RU:=Hd (R0.out.then hb1)
 have q9:=((HR0.out.below (HU.out.mono hB) hb).get0' HP0.out)
 have n1:(p0==1)=false:=by rw [← hp0];simpa using HI.out
 clear hp0
 clear hb1 e0 e1 e15
 have e0:=RU.out.cell HC0.out
 have e1:=RU.out.cell HC1.out
 have e15:=RU.out.cell HC15.out
 have sc0:(s0:ByteArray).size+(⟨#[46]⟩:ByteArray).size≤9223372036854775807:=by (repeat rw [ByteArray.size_append]);simp only [szl,List.size_toArray,List.length_cons,List.length_nil];omega
 have sc1:(s0++⟨#[46]⟩:ByteArray).size+(nm:ByteArray).size≤9223372036854775807:=by (repeat rw [ByteArray.size_append]);simp only [szl,List.size_toArray,List.length_cons,List.length_nil];omega
 go_wp2_with fail
 refine (isName_p nm _ (by unfold maxLen;omega)).mono ?_
 rintro e w' ⟨rfl,rfl⟩
 rw [show nameB nm=true by rw [← HNE.out];exact HNA.out]
 go_wp2_with fail
 go_ret
 exact ⟨by rw [HST.out,HR.out];rfl,HU.out⟩
set_option maxRecDepth 100000 in
set_option maxHeartbeats 6400000 in
theorem post_5_aq (f:ExprD→ByteArray) (x:ExprD) (ho:x.op=5) (hn:x.args.length=1) (k0:KidP f (x.args.getD 0 default)) (hi:(x.args.getD 0 default).op≠1) (hna:nameB x.name=false) (hq:validS x.name=true∧x.name.size≤1024)
 (w:World) (B N:Nat) (cs:List Value) (hN:N≤1048576) (hB:B≤w.heap.size) (hE:Env w) (hx:ExprD.At w B N x cs):Calls Tryz.prog 57 #[.agg cs.toArray] w (StrB (stepT f x) w):=by
 have HX:=Hd hx
 have HE:=Hd hE
 have K0:=Hd k0
 have HO:=Hd ho
 have HI:=Hd hi
 have HNA:=Hd hna
 have HQ:=Hd hq
 obtain ⟨aa,fa,ac,fc,vs,hh⟩:=hx.has
 have HC0:=Hd (show cs[0]?=some (.int .i64 5) by rw [← ho];exact hh.op)
 have hnm:=Hd (show x.name.size≤1048576 from Nat.le_trans hh.own.2.1 hN)
 obtain ⟨nm,hnm2⟩:∃ nm,x.name=nm:=⟨_,rfl⟩
 have HNE:=Hd hnm2
 have znm:nm.size≤1048576:=by rw [← hnm2];exact hnm.out
 have HC1:=Hd (show cs[1]?=some (.string nm) by rw [← hnm2];exact hh.name)
 obtain ⟨b,o,haa,hb,hget⟩:=args_at hh (n:=1) hn (by decide)
 have HC15:=Hd (show cs[15]?=some (.slice (some ⟨b,o,none⟩) 1 ac) by rw [hh.args,hn,haa])
 obtain ⟨a0,r0,q0⟩:=hget 0 (by decide)
 have HR0:=Hd (show CellsAt w b (o) a0 by simpa using r0)
 have HQ0:=Hd q0
 have hl0:=Hd (show (Tryz.prog.info? 34).map (·.size)=some a0.length by rw [q0.len];kernel_rfl)
 obtain ⟨w1,hw1⟩:∃ w1,w1=w.alloc (.cells cs.toArray 34):=⟨_,rfl⟩
 have HW:=Hd hw1
 have R0:=Hd (show RowT 34 w1 w.heap.size cs by rw [hw1];exact RowT.new w 34 cs)
 have H0:=Hd (show Below w.heap.size w w1 by rw [hw1];exact belowBox w _)
 have HKA:=Hd (show ∀ v,Below w.heap.size w v→B≤v.heap.size∧Env v∧ExprD.At v B N (x.args.getD 0 default) a0∧True from fun v hv=>⟨Nat.le_trans hB hv.size,HE.out.then hv,HQ0.out.below (hv.mono hB),trivial⟩)
 have e0:=R0.out.cell HC0.out
 have e1:=R0.out.cell HC1.out
 have e15:=R0.out.cell HC15.out
 rw [hw1] at e0 e1 e15
 have d0:=(r0.below (H0.out.mono hB) hb)
 obtain ⟨_,_,_,_,_,g0⟩:=q0.has
 obtain ⟨p0,hp0⟩:∃ p0,(x.args.getD 0 default).op=p0:=⟨_,rfl⟩
 have HP0:=Hd (show a0[0]?=some (.int .i64 p0) by rw [← hp0];exact g0.op)
 obtain ⟨s,hs⟩:∃ s,stepT f x=s:=⟨_,rfl⟩
 have HST:=Hd hs
 obtain ⟨s0,hs0⟩:∃ s0,atS f 10 (x.args.getD 0 default)=s0:=⟨_,rfl⟩
 have HS0:=Hd hs0
 have z0:s0.size≤274877906946:=by rw [← hs0];exact Nat.le_trans (atS_le f _ _) (Nat.add_le_add_right K0.out.size 2)
 have HR:=Hd (show s=s0++⟨#[46]⟩++quoteS nm by
  rw [← HST.out]
  unfold stepT
  rw [HO.out]
  simp only [if_true,if_false,Int.reduceEq]
  rw [hs0,hnm2,show nameB nm=false by rw [← hnm2];exact HNA.out,if_neg HI.out,if_neg (by decide)])
 clear hx hE hh k0 ho hn haa hget hnm2 hw1 hs hs0 hi hna hq d0 g0
 go_enter Tryz.func57,Tryz.ntmps57
 go_wp2_with ((with_reducible show wpList _ _ _ (⟨some 7,_,_,_,_,_⟩::_) _ _);refine wpList_load_mid rfl 34 _ rfl b o rfl a0 _ (by rw [← HW.out];exact (HR0.out.below (H0.out.mono hB) hb).range) Tryz.underlying34 rfl hl0.out ?_)
 rw [← HW.out]
 refine (arg_p f _ K0.out 10 _ B N a0 hN (HKA.out _ H0.out).1 (HKA.out _ H0.out).2.1 (HKA.out _ H0.out).2.2.1).mono ?_
 rw [HS0.out]
 rintro e wu ⟨rfl,hb1⟩
 have HU:=Hd (belowThen H0.out hb1)
 have RU:=Hd (R0.out.then hb1)
 have q9:=((HR0.out.below (HU.out.mono hB) hb).get0' HP0.out)
 have n1:(p0==1)=false:=by rw [← hp0];simpa using HI.out
 clear hp0
 clear hb1 e0 e1 e15
 have e0:=RU.out.cell HC0.out
 have e1:=RU.out.cell HC1.out
 have e15:=RU.out.cell HC15.out
 have sc0:(s0:ByteArray).size+(⟨#[46]⟩:ByteArray).size≤9223372036854775807:=by (repeat rw [ByteArray.size_append]);simp only [szl,List.size_toArray,List.length_cons,List.length_nil];omega
 have zq:=quoteS_size nm
 have sc1:(s0++⟨#[46]⟩:ByteArray).size+(quoteS nm:ByteArray).size≤9223372036854775807:=by (repeat rw [ByteArray.size_append]);simp only [szl,List.size_toArray,List.length_cons,List.length_nil];omega
 clear zq
 go_wp2_with fail
 refine (isName_p nm _ (by unfold maxLen;omega)).mono ?_
 rintro e w' ⟨rfl,rfl⟩
 rw [show nameB nm=false by rw [← HNE.out];exact HNA.out]
 go_wp2_with fail
 refine (quote_w nm _ (by have:=HQ.out.2;rw [HNE.out] at this;omega) (HKA.out _ HU.out).2.1 (by rw [← HNE.out];exact HQ.out.1)).mono ?_
 rintro e wv ⟨rfl,hb2⟩
 have HV:=Hd (belowThen HU.out hb2)
 clear hb2
 go_wp2_with fail
 go_ret
 exact ⟨by rw [HST.out,HR.out];rfl,HV.out⟩
end Go.Proofs.YtiefeajappjnbaaGreatDoor
