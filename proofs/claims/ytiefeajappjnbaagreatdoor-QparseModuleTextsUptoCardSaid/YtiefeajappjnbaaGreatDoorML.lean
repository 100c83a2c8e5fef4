/- qparse.show writes the source of every accepted expression. -/
import Derived.Test.YtiefeajappjnbaaGreatDoorMG
import Derived.Test.YtiefeajappjnbaaGreatDoorMI
import Derived.Test.YtiefeajappjnbaaGreatDoorGA
import Derived.Test.YtiefeajappjnbaaGreatDoorNur36
import Derived.Test.YtiefeajappjnbaaGreatDoorMK
import Derived.Test.YtiefeajappjnbaaGreatDoorSrc36
import Derived.Test.YtiefeajappjnbaaGreatDoorWrd36
import Derived.Test.YtiefeajappjnbaaGreatDoorMN
import Derived.Test.YtiefeajappjnbaaGreatDoorHA
import Derived.Test.YtiefeajappjnbaaGreatDoorSma36
namespace Go.Proofs.YtiefeajappjnbaaGreatDoor
open Go.RowKit
set_option maxHeartbeats 3200000 in
theorem show_step (f:ExprD→ByteArray) (x:ExprD) (h1:Sh1 x) (hk:∀ a∈x.args,a.op≠30→KidP f a) (hf:∀ u∈x.funcs,KidP f u.body) (ha:∀ a∈x.args,a.op≠30→KeyP a) (hz:x.args.length≤4096)
 (pf:(joinS ⟨#[44,32]⟩ (pairsS f x.args)).size≤140737488355328) (df:(defsS f x.funcs).size≤549755813888)
 (w:World) (B N:Nat) (cs:List Value) (hN:N≤1048576) (hB:B≤w.heap.size) (hE:Env w) (hx:ExprD.At w B N x cs):Calls Tryz.prog 22 #[.agg cs.toArray] w (StrB (stepT f x) w):=by
 have kid:∀ k,k<x.args.length→(x.args.getD k default).op≠30→KidP f (x.args.getD k default):=fun k h h3=>hk _ (getD_mem h) h3
 have here:∀ k,k<x.args.length→k<optE x.op→KidP f (x.args.getD k default):=fun k h h2=>kid k h (sh_there h1 h h2)
 rcases ops31 (show 1≤x.op∧x.op≤30 by have:=sh_op h1;omega) with h | h | h | h | h | h | h | h | h | h | h | h | h | h | h | h | h | h | h | h | h | h | h | h | h | h | h | h | h | h
 ·exact show_1 f x h w B N cs hN hB hE hx
 ·exact show_2 f x h w B N cs hN hB hE hx
 ·exact show_3 f x h (sh_lit h1 h) w B N cs hB hE hx
 ·exact show_4 f x h w B N cs hN hB hE hx
 ·have hn:x.args.length=1:=wf_num h1.wf (by rw [h];decide)
  have k0:=here 0 (by omega) (by rw [h];decide)
  have hq:=sh_name5 h1 h
  refine show_post_5 f x h (fun w B N cs hN hB hE hx=>?_) w B N cs hN hB hE hx
  by_cases hi:(x.args.getD 0 default).op=1
  ·cases hna:nameB x.name
   ·exact post_5_iq f x h hn k0 hi hna hq w B N cs hN hB hE hx
   ·exact post_5_in f x h hn k0 hi hna hq w B N cs hN hB hE hx
  ·cases hna:nameB x.name
   ·exact post_5_aq f x h hn k0 hi hna hq w B N cs hN hB hE hx
   ·exact post_5_an f x h hn k0 hi hna hq w B N cs hN hB hE hx
 ·have hn:x.args.length=2:=wf_num h1.wf (by rw [h];decide)
  exact show_post_6 f x h (fun w B N cs hN hB hE hx=>post_6 f x h hn (here 0 (by omega) (by rw [h];decide)) (here 1 (by omega) (by rw [h];decide)) w B N cs hN hB hE hx) w B N cs hN hB hE hx
 ·have hn:x.args.length=3:=wf_num h1.wf (by rw [h];decide)
  exact show_post_7 f x h (fun w B N cs hN hB hE hx=>post_7 f x h hn (here 0 (by omega) (by rw [h];decide)) (kid 1 (by omega)) (kid 2 (by omega)) w B N cs hN hB hE hx) w B N cs hN hB hE hx
 ·have hn:x.args.length=1:=wf_num h1.wf (by rw [h];decide)
  exact show_post_8 f x h (fun w B N cs hN hB hE hx=>post_8 f x h hn (here 0 (by omega) (by rw [h];decide)) w B N cs hN hB hE hx) w B N cs hN hB hE hx
 ·have hn:x.args.length=2:=wf_num h1.wf (by rw [h];decide)
  exact show_bin_9 f x h (fun w B N cs hN hB hE hx=>binary_p f x (by omega) hn (here 0 (by omega) (by rw [h];decide)) (here 1 (by omega) (by rw [h];decide)) w B N cs hN hB hE hx) w B N cs hN hB hE hx
 ·have hn:x.args.length=2:=wf_num h1.wf (by rw [h];decide)
  exact show_bin_10 f x h (fun w B N cs hN hB hE hx=>binary_p f x (by omega) hn (here 0 (by omega) (by rw [h];decide)) (here 1 (by omega) (by rw [h];decide)) w B N cs hN hB hE hx) w B N cs hN hB hE hx
 ·have hn:x.args.length=1:=wf_num h1.wf (by rw [h];decide)
  exact show_11 f x h hn (here 0 (by omega) (by rw [h];decide)) w B N cs hN hB hE hx
 ·have hn:x.args.length=2:=wf_num h1.wf (by rw [h];decide)
  exact show_bin_12 f x h (fun w B N cs hN hB hE hx=>binary_p f x (by omega) hn (here 0 (by omega) (by rw [h];decide)) (here 1 (by omega) (by rw [h];decide)) w B N cs hN hB hE hx) w B N cs hN hB hE hx
 ·have hn:x.args.length=2:=wf_num h1.wf (by rw [h];decide)
  exact show_bin_13 f x h (fun w B N cs hN hB hE hx=>binary_p f x (by omega) hn (here 0 (by omega) (by rw [h];decide)) (here 1 (by omega) (by rw [h];decide)) w B N cs hN hB hE hx) w B N cs hN hB hE hx
 ·have hn:x.args.length=2:=wf_num h1.wf (by rw [h];decide)
  exact show_bin_14 f x h (fun w B N cs hN hB hE hx=>binary_p f x (by omega) hn (here 0 (by omega) (by rw [h];decide)) (here 1 (by omega) (by rw [h];decide)) w B N cs hN hB hE hx) w B N cs hN hB hE hx
 ·have hn:x.args.length=2:=wf_num h1.wf (by rw [h];decide)
  exact show_bin_15 f x h (fun w B N cs hN hB hE hx=>binary_p f x (by omega) hn (here 0 (by omega) (by rw [h];decide)) (here 1 (by omega) (by rw [h];decide)) w B N cs hN hB hE hx) w B N cs hN hB hE hx
 ·have hn:x.args.length=2:=wf_num h1.wf (by rw [h];decide)
  exact show_bin_16 f x h (fun w B N cs hN hB hE hx=>binary_p f x (by omega) hn (here 0 (by omega) (by rw [h];decide)) (here 1 (by omega) (by rw [h];decide)) w B N cs hN hB hE hx) w B N cs hN hB hE hx
 ·have hn:x.args.length=2:=wf_num h1.wf (by rw [h];decide)
  have k0:=here 0 (by omega) (by rw [h];decide)
  by_cases hi:(x.args.getD 1 default).op=30
  ·exact show_17_n f x h hn k0 hi w B N cs hN hB hE hx
  ·exact show_17_c f x h hn k0 (kid 1 (by omega) hi) hi w B N cs hN hB hE hx
 ·have hn:x.args.length=3:=wf_num h1.wf (by rw [h];decide)
  have k0:=here 0 (by omega) (by rw [h];decide)
  have k1:=here 1 (by omega) (by rw [h];decide)
  by_cases hi:(x.args.getD 2 default).op=30
  ·exact show_18_n f x h hn k0 k1 hi w B N cs hN hB hE hx
  ·exact show_18_e f x h hn k0 k1 (kid 2 (by omega) hi) hi w B N cs hN hB hE hx
 ·have hn:x.args.length=3:=wf_num h1.wf (by rw [h];decide)
  exact show_19 f x h hn (here 0 (by omega) (by rw [h];decide)) (here 1 (by omega) (by rw [h];decide)) (here 2 (by omega) (by rw [h];decide)) w B N cs hN hB hE hx
 ·have hn:x.args.length=4:=wf_num h1.wf (by rw [h];decide)
  exact show_20 f x h hn (here 0 (by omega) (by rw [h];decide)) (here 1 (by omega) (by rw [h];decide)) (here 2 (by omega) (by rw [h];decide)) (kid 3 (by omega)) w B N cs hN hB hE hx
 ·by_cases h0:x.args=[]
  ·exact show_21_0 f x h h0 w B N cs hN hB hE hx
  ·exact show_21_n f x h h0 (sh_call h1 h) (fun i hi=>by
    have h3:=sh_there h1 hi (by rw [h];have:=sh_call h1 h;show i<65536;omega)
    rw [getD_eq' hi] at h3
    exact ⟨h3,hk _ (List.getElem_mem hi) h3⟩) w B N cs hN hB hE hx
 ·have hn:x.args.length=2:=wf_num h1.wf (by rw [h];decide)
  exact show_22 f x h hn (here 0 (by omega) (by rw [h];decide)) (here 1 (by omega) (by rw [h];decide)) w B N cs hN hB hE hx
 ·have hn:x.args.length=1:=wf_num h1.wf (by rw [h];decide)
  have k0:=here 0 (by omega) (by rw [h];decide)
  exact show_23 f x h hn h1.par (fun i hi=>hf _ (List.getElem_mem hi)) df k0.call k0.size w B N cs hN hB hE hx
 ·have hn:x.args.length=1:=wf_num h1.wf (by rw [h];decide)
  exact show_24 f x h hn (kid 0 (by omega)) w B N cs hN hB hE hx
 ·obtain ⟨n,hn⟩:=sh_map h1 h
  have ho:∀ i (hi:i<x.args.length),x.args[i].op≠30:=fun i hi=>by
   have h3:=sh_there h1 hi (by rw [h];show i<65536;omega)
   rwa [getD_eq' hi] at h3
  exact show_25 f x h n hn hz (fun i hi=>hk _ (List.getElem_mem hi) (ho i hi)) (fun i hi=>ha _ (List.getElem_mem hi) (ho i hi)) pf w B N cs hN hB hE hx
 ·have hn:x.args.length=1:=wf_num h1.wf (by rw [h];decide)
  exact show_26 f x h hn (here 0 (by omega) (by rw [h];decide)) w B N cs hN hB hE hx
 ·exact show_27 f x h w B N cs hN hB hE hx
 ·have hn:x.args.length=2:=wf_num h1.wf (by rw [h];decide)
  exact show_bin_28 f x h (fun w B N cs hN hB hE hx=>binary_p f x (by omega) hn (here 0 (by omega) (by rw [h];decide)) (here 1 (by omega) (by rw [h];decide)) w B N cs hN hB hE hx) w B N cs hN hB hE hx
 ·have hn:x.args.length=2:=wf_num h1.wf (by rw [h];decide)
  exact show_bin_29 f x h (fun w B N cs hN hB hE hx=>binary_p f x (by omega) hn (here 0 (by omega) (by rw [h];decide)) (here 1 (by omega) (by rw [h];decide)) w B N cs hN hB hE hx) w B N cs hN hB hE hx
 ·have:=sh_op h1
  omega
theorem kid_at {w:World} {B N:Nat} {x:ExprD} {cs:List Value} (hx:ExprD.At w B N x cs) {a:ExprD} (ha:a∈x.args):∃ es,ExprD.At w B N a es:=by
 obtain ⟨aa,fa,ac,fc,vs,hh⟩:=hx.has
 obtain ⟨i,hi,rfl⟩:=List.getElem_of_mem ha
 obtain ⟨b,o,_,_,hget⟩:=hh.atArgs.get (by intro h;simp [h] at hi)
 obtain ⟨as0,_,hA⟩:=hget i hi
 exact ⟨as0,hA⟩
theorem body_at {w:World} {B N:Nat} {x:ExprD} {cs:List Value} (hx:ExprD.At w B N x cs) {u:FuncD} (hu:u∈x.funcs):∃ es,ExprD.At w B N u.body es:=by
 obtain ⟨aa,fa,ac,fc,vs,hh⟩:=hx.has
 obtain ⟨i,hi,rfl⟩:=List.getElem_of_mem hu
 obtain ⟨b,o,_,_,hget⟩:=hh.atFuncs.get (by intro h;simp [h] at hi)
 obtain ⟨fs,_,hF⟩:=hget i hi
 obtain ⟨pa,pc,es,hF⟩:=hF.has
 exact ⟨es,hF.atBody⟩
theorem show_all:∀ (m:Nat) (x:ExprD),shO m x→ndE m x≤4096→ShwP (showS m) x:=by
 intro m
 induction m with
 | zero =>
   intro x hs _ w B N cs hN hB hE hx
   obtain ⟨h1,ha,hf⟩:=hs
   exact show_step (fun _=>⟨#[]⟩) x h1 (fun a h=>by rw [ha] at h;cases h) (fun u h=>by rw [hf] at h;cases h) (fun a h=>by rw [ha] at h;cases h) (by rw [ha];exact Nat.zero_le _) (by rw [ha];exact Nat.zero_le _) (by rw [hf];exact Nat.zero_le _) w B N cs hN hB hE hx
 | succ m ih =>
   intro x hs hn w B N cs hN hB hE hx
   refine show_step (showS m) x hs.1 (fun a ha h3=>?_) (fun u hu=>?_) (fun a ha h3=>sh_key (shO_1 ((hs.2.1 a ha).resolve_left h3))) (nd_len hn) (Nat.le_trans (pairs_fit hN hs hn hx) (by decide)) (Nat.le_trans (defs_fit hN hs hn hx) (by decide)) w B N cs hN hB hE hx
   ·have h:=(hs.2.1 a ha).resolve_left h3
    obtain ⟨as0,hA⟩:=kid_at hx ha
    exact ⟨sh_op (shO_1 h),fun h17=>wf_num (shO_1 h).wf (by rw [h17];decide),show_fit hN h (nd_kid hn ha) hA,ih a h (nd_kid hn ha)⟩
   ·have h:=hs.2.2 u hu
    obtain ⟨as0,hA⟩:=body_at hx hu
    exact ⟨sh_op (shO_1 h),fun h17=>wf_num (shO_1 h).wf (by rw [h17];decide),show_fit hN h (nd_body hn hu) hA,ih _ h (nd_body hn hu)⟩
end Go.Proofs.YtiefeajappjnbaaGreatDoor

/- A literal's source: the reference's lit (printed by genlit36.py). -/
namespace Go.Proofs.YtiefeajappjnbaaGreatDoor
open Go.RowKit
set_option maxRecDepth 100000 in
set_option maxHeartbeats 6400000 in
theorem slit_r (v:ValD) (hl:LitP v) (w:World) (B N:Nat) (vs:List Value) (hE:Env w) (hv:ValD.At w B N v vs):Calls Tryz.prog 64 #[.agg vs.toArray] w (StrB (litS v) w):=by
 obtain ⟨ya,la,va,yc,lc,vc,hh⟩:=hv.has
 have HE:=Hd hE
 have HL:=Hd hl
 obtain ⟨k,hk⟩:∃ k,v.kind=k:=⟨_,rfl⟩
 have HK:=Hd hk
 have HC0:=Hd (show vs[0]?=some (.int .i64 k) by rw [← hk];exact hh.kind)
 have R0:=Hd (RowT.new w 30 vs)
 have H0:=Hd (belowBox w (.cells vs.toArray 30))
 have HB:=Hd hh.bool
 have HC2:=Hd hh.neg
 have HC3:=Hd hh.digits
 have HC4:=Hd hh.exp
 have HC9:=Hd hh.text
 have e0:=R0.out.cell HC0.out
 have hkk:=hl.kind
 rw [hk] at hkk
 clear hv hE hl hh hk
 rcases hkk with rfl | rfl | rfl | rfl
 ·have HR:=Hd (show litS v=⟨#[110,117,108,108]⟩ by unfold litS;rw [HK.out];rfl)
  go_enter Tryz.func64,Tryz.ntmps64
  go_wp2_with fail
  go_ret
  exact ⟨by rw [HR.out];rfl,H0.out⟩
 ·have e1:=R0.out.cell HB.out
  obtain ⟨bb,hbb⟩:∃ bb,v.bool=bb:=⟨_,rfl⟩
  have HBB:=Hd hbb
  rw [hbb] at e1
  clear hbb
  cases bb
  ·have HR:=Hd (show litS v=⟨#[102,97,108,115,101]⟩ by unfold litS;rw [HK.out,HBB.out];rfl)
   go_enter Tryz.func64,Tryz.ntmps64
   go_wp2_with fail
   go_ret
   exact ⟨by rw [HR.out];rfl,H0.out⟩
  ·have HR:=Hd (show litS v=⟨#[116,114,117,101]⟩ by unfold litS;rw [HK.out,HBB.out];rfl)
   go_enter Tryz.func64,Tryz.ntmps64
   go_wp2_with fail
   go_ret
   exact ⟨by rw [HR.out];rfl,H0.out⟩
 ·obtain ⟨hneg,hvd⟩:=HL.out.num HK.out
  obtain ⟨ds,hds⟩:∃ ds,v.num.digits=ds:=⟨_,rfl⟩
  obtain ⟨ex,hex⟩:∃ ex,v.num.exp=ex:=⟨_,rfl⟩
  have hnum:v.num=⟨false,ds,ex⟩:=by
   rw [← hneg,← hds,← hex]
  have HVD:=Hd (show VDec ⟨false,ds,ex⟩ by rw [← hnum];exact hvd)
  have HRG:=Hd (range3 (b:=w.heap.size) (o:=2) (R0.out.cell (j:=2) (v:=.bool false) (by rw [← hneg];exact HC2.out)) (R0.out.cell (j:=3) (v:=.string ds) (by rw [← hds];exact HC3.out)) (R0.out.cell (j:=4) (v:=.int .i64 ex) (by rw [← hex];exact HC4.out)))
  have HR:=Hd (show litS v=numT ⟨false,ds,ex⟩ by unfold litS;rw [HK.out,hnum];rfl)
  have hl3:=Hd (show (Tryz.prog.info? 23).map (·.size)=some ([Value.bool false,.string ds,.int .i64 ex]:List Value).length by kernel_rfl)
  clear hneg hvd hds hex hnum
  go_enter Tryz.func64,Tryz.ntmps64
  go_wp2_with ((with_reducible show wpList _ _ _ (⟨some 14,_,_,_,_,_⟩::_) _ _);refine wpList_load_mid rfl 23 _ rfl w.heap.size 2 rfl [.bool false,.string ds,.int .i64 ex] _ HRG.out Tryz.underlying23 rfl hl3.out ?_)
  refine (rtext ds ex HVD.out _).mono ?_
  rintro e w1 ⟨rfl,hb1⟩
  have H1:=Hd (belowThen H0.out hb1)
  clear hb1
  go_wp2_with fail
  go_ret
  exact ⟨by rw [HR.out];rfl,H1.out⟩
 ·obtain ⟨tx,htx⟩:∃ tx,v.text=tx:=⟨_,rfl⟩
  have HT:=Hd (HL.out.text HK.out)
  rw [htx] at HT
  have e9:=R0.out.cell (j:=9) (v:=.string tx) (by rw [← htx];exact HC9.out)
  have HR:=Hd (show litS v=quoteS tx by unfold litS;rw [HK.out,htx];rfl)
  clear htx
  go_enter Tryz.func64,Tryz.ntmps64
  go_wp2_with fail
  refine (quote_r tx _ HT.out.1 (HE.out.then H0.out) HT.out.2).mono ?_
  rintro e w1 ⟨rfl,hb1⟩
  have H1:=Hd (belowThen H0.out hb1)
  clear hb1
  go_wp2_with fail
  go_ret
  exact ⟨by rw [HR.out];rfl,H1.out⟩
set_option maxRecDepth 100000 in
set_option maxHeartbeats 6400000 in
theorem src_3 (f:ExprD→ByteArray) (x:ExprD) (ho:x.op=3) (hl:LitP x.val)
 (w:World) (B N:Nat) (cs:List Value) (hB:B≤w.heap.size) (hE:Env w) (hx:ExprD.At w B N x cs):Calls Tryz.prog 24 #[.agg cs.toArray] w (StrB (stepT f x) w):=by
 have HE:=Hd hE
 have HO:=Hd ho
 have HL:=Hd hl
 obtain ⟨aa,fa,ac,fc,vs,hh⟩:=hx.has
 have HC0:=Hd (show cs[0]?=some (.int .i64 3) by rw [← ho];exact hh.op)
 have HVS:=Hd hh.val
 have HVA:=Hd hh.atVal
 have hlv:=Hd (show (Tryz.prog.info? 30).map (·.size)=some vs.length by
  obtain ⟨_,_,_,_,_,_,gv⟩:=hh.atVal.has
  rw [gv.len];kernel_rfl)
 have R0:=Hd (RowT.new w 34 cs)
 have H0:=Hd (belowBox w (.cells cs.toArray 34))
 have e0:=R0.out.cell HC0.out
 have HR:=Hd (show stepT f x=litS x.val by
  unfold stepT
  rw [HO.out]
  simp only [if_true,if_false,Int.reduceEq])
 clear hx hE hh ho hl
 go_enter Tryz.func24,Tryz.ntmps24
 go_wp2_with ((with_reducible show wpList _ _ _ (⟨some 13,_,_,_,_,_⟩::_) _ _);refine wpList_load_mid rfl 30 _ rfl w.heap.size 2 rfl vs _ (R0.out.cells.partU HVS.out) Tryz.underlying30 rfl hlv.out ?_)
 refine (slit_r x.val HL.out _ B N vs (HE.out.then H0.out) (HVA.out.below (H0.out.mono hB))).mono ?_
 rintro e w1 ⟨rfl,hb1⟩
 have H1:=Hd (belowThen H0.out hb1)
 clear hb1
 go_wp2_with fail
 go_ret
 exact ⟨by rw [HR.out];rfl,H1.out⟩
end Go.Proofs.YtiefeajappjnbaaGreatDoor

/- The reference's Source writes the source of every accepted expression. -/
namespace Go.Proofs.YtiefeajappjnbaaGreatDoor
open Go.RowKit
theorem two_pos {f:ExprD→ByteArray} {e:ExprD} {l r:Int} {o:ByteArray} (h:0<o.size):0<(twoS f e l o r).size:=by
 unfold twoS
 rw [ByteArray.size_append,ByteArray.size_append]
 omega
theorem lit_pos (a b:ByteArray):0<((⟨#[32]⟩:ByteArray)++a++b).size:=by
 rw [ByteArray.size_append,ByteArray.size_append]
 have:(⟨#[32]⟩:ByteArray).size=1:=rfl
 omega
theorem step_pos (f:ExprD→ByteArray) (x:ExprD) (h:x.op=9∨x.op=10∨x.op=16∨x.op=28∨x.op=29∨x.op=15∨x.op=14∨x.op=13∨x.op=12):0<(stepT f x).size:=by
 rcases h with h | h | h | h | h | h | h | h | h
 all_goals
  unfold stepT
  rw [h]
  simp only [if_true,if_false,Int.reduceEq]
  first
   | exact two_pos (lit_pos _ _)
   | exact two_pos (by decide)
set_option maxHeartbeats 3200000 in
theorem src_step (f:ExprD→ByteArray) (x:ExprD) (h1:Sh1 x) (hk:∀ a∈x.args,a.op≠30→KidR f a) (hf:∀ u∈x.funcs,SrcR f u.body∧(f u.body).size≤274877906944) (ha:∀ a∈x.args,a.op≠30→KeyP a) (hz:x.args.length≤4096)
 (pf:(joinS ⟨#[44,32]⟩ (pairsS f x.args)).size≤140737488355328) (df:(defsS f x.funcs).size≤549755813888)
 (w:World) (B N:Nat) (cs:List Value) (hN:N≤1048576) (hB:B≤w.heap.size) (hE:Env w) (hx:ExprD.At w B N x cs):Calls Tryz.prog 24 #[.agg cs.toArray] w (StrB (stepT f x) w):=by
 have kid:∀ k,k<x.args.length→(x.args.getD k default).op≠30→KidR f (x.args.getD k default):=fun k h h3=>hk _ (getD_mem h) h3
 have here:∀ k,k<x.args.length→k<optE x.op→KidR f (x.args.getD k default):=fun k h h2=>kid k h (sh_there h1 h h2)
 have opt:∀ k,k<x.args.length→AftR f (x.args.getD k default):=fun k h=>⟨sh_abs h1 (getD_mem h),fun h3=>(kid k h h3).call,fun h3=>(kid k h h3).size⟩
 rcases ops31 (show 1≤x.op∧x.op≤30 by have:=sh_op h1;omega) with h | h | h | h | h | h | h | h | h | h | h | h | h | h | h | h | h | h | h | h | h | h | h | h | h | h | h | h | h | h
 ·exact src_1 f x h w B N cs hN hB hE hx
 ·exact src_2 f x h w B N cs hN hB hE hx
 ·exact src_3 f x h (sh_lit h1 h) w B N cs hB hE hx
 ·exact src_4 f x h w B N cs hN hB hE hx
 ·have hn:x.args.length=1:=wf_num h1.wf (by rw [h];decide)
  have k0:=here 0 (by omega) (by rw [h];decide)
  have hq:=sh_name5 h1 h
  refine src_5 f x h (fun w B N cs hN hB hE hx=>?_) w B N cs hN hB hE hx
  by_cases hi:(x.args.getD 0 default).op=1
  ·cases hna:nameB x.name
   ·exact field_iq f x h hn hi hna hq w B N cs hN hB hE hx
   ·exact field_in f x h hn hi hna hq w B N cs hN hB hE hx
  ·cases hna:nameB x.name
   ·exact field_aq f x h hn k0 hi hna hq w B N cs hN hB hE hx
   ·exact field_an f x h hn k0 hi hna hq w B N cs hN hB hE hx
 ·have hn:x.args.length=2:=wf_num h1.wf (by rw [h];decide)
  exact src_6 f x h hn (here 0 (by omega) (by rw [h];decide)) (here 1 (by omega) (by rw [h];decide)) w B N cs hN hB hE hx
 ·have hn:x.args.length=3:=wf_num h1.wf (by rw [h];decide)
  exact src_7 f x h hn (here 0 (by omega) (by rw [h];decide)) (opt 1 (by omega)) (opt 2 (by omega)) w B N cs hN hB hE hx
 ·have hn:x.args.length=1:=wf_num h1.wf (by rw [h];decide)
  exact src_8 f x h hn (here 0 (by omega) (by rw [h];decide)) w B N cs hN hB hE hx
 ·have hn:x.args.length=2:=wf_num h1.wf (by rw [h];decide)
  exact src_9 f x h (fun w B N cs hN hB hE hx=>infix_9 f x h hn (here 0 (by omega) (by rw [h];decide)) (here 1 (by omega) (by rw [h];decide)) w B N cs hN hB hE hx) (step_pos f x (by omega)) w B N cs hN hB hE hx
 ·have hn:x.args.length=2:=wf_num h1.wf (by rw [h];decide)
  exact src_10 f x h (fun w B N cs hN hB hE hx=>infix_10 f x h hn (here 0 (by omega) (by rw [h];decide)) (here 1 (by omega) (by rw [h];decide)) w B N cs hN hB hE hx) (step_pos f x (by omega)) w B N cs hN hB hE hx
 ·have hn:x.args.length=1:=wf_num h1.wf (by rw [h];decide)
  exact src_11 f x h hn (here 0 (by omega) (by rw [h];decide)) w B N cs hN hB hE hx
 ·have hn:x.args.length=2:=wf_num h1.wf (by rw [h];decide)
  exact src_12 f x h (fun w B N cs hN hB hE hx=>infix_12 f x h hn (here 0 (by omega) (by rw [h];decide)) (here 1 (by omega) (by rw [h];decide)) w B N cs hN hB hE hx) (step_pos f x (by omega)) w B N cs hN hB hE hx
 ·have hn:x.args.length=2:=wf_num h1.wf (by rw [h];decide)
  exact src_13 f x h (fun w B N cs hN hB hE hx=>infix_13 f x h hn (here 0 (by omega) (by rw [h];decide)) (here 1 (by omega) (by rw [h];decide)) w B N cs hN hB hE hx) (step_pos f x (by omega)) w B N cs hN hB hE hx
 ·have hn:x.args.length=2:=wf_num h1.wf (by rw [h];decide)
  exact src_14 f x h (fun w B N cs hN hB hE hx=>infix_14 f x h hn (here 0 (by omega) (by rw [h];decide)) (here 1 (by omega) (by rw [h];decide)) w B N cs hN hB hE hx) (step_pos f x (by omega)) w B N cs hN hB hE hx
 ·have hn:x.args.length=2:=wf_num h1.wf (by rw [h];decide)
  exact src_15 f x h (fun w B N cs hN hB hE hx=>infix_15 f x h hn (here 0 (by omega) (by rw [h];decide)) (here 1 (by omega) (by rw [h];decide)) w B N cs hN hB hE hx) (step_pos f x (by omega)) w B N cs hN hB hE hx
 ·have hn:x.args.length=2:=wf_num h1.wf (by rw [h];decide)
  exact src_16 f x h (fun w B N cs hN hB hE hx=>infix_16 f x h hn (here 0 (by omega) (by rw [h];decide)) (here 1 (by omega) (by rw [h];decide)) w B N cs hN hB hE hx) (step_pos f x (by omega)) w B N cs hN hB hE hx
 ·have hn:x.args.length=2:=wf_num h1.wf (by rw [h];decide)
  have k0:=here 0 (by omega) (by rw [h];decide)
  refine src_17 f x h (fun w B N cs hN hB hE hx=>?_) w B N cs hN hB hE hx
  by_cases hi:(x.args.getD 1 default).op=30
  ·exact word_17_n f x h hn k0 hi (sh_abs h1 (getD_mem (by omega)) hi) w B N cs hN hB hE hx
  ·exact word_17_c f x h hn k0 (kid 1 (by omega) hi) hi w B N cs hN hB hE hx
 ·have hn:x.args.length=3:=wf_num h1.wf (by rw [h];decide)
  exact src_18 f x h (fun w B N cs hN hB hE hx=>word_18 f x h hn (here 0 (by omega) (by rw [h];decide)) (here 1 (by omega) (by rw [h];decide)) (opt 2 (by omega)) w B N cs hN hB hE hx) w B N cs hN hB hE hx
 ·have hn:x.args.length=3:=wf_num h1.wf (by rw [h];decide)
  exact src_19 f x h (fun w B N cs hN hB hE hx=>word_19 f x h hn (here 0 (by omega) (by rw [h];decide)) (here 1 (by omega) (by rw [h];decide)) (here 2 (by omega) (by rw [h];decide)) w B N cs hN hB hE hx) w B N cs hN hB hE hx
 ·have hn:x.args.length=4:=wf_num h1.wf (by rw [h];decide)
  exact src_20 f x h (fun w B N cs hN hB hE hx=>word_20 f x h hn (here 0 (by omega) (by rw [h];decide)) (here 1 (by omega) (by rw [h];decide)) (here 2 (by omega) (by rw [h];decide)) (opt 3 (by omega)) w B N cs hN hB hE hx) w B N cs hN hB hE hx
 ·exact src_21 f x h (fun w B N cs hN hB hE hx=>call_r f x h (sh_call h1 h) (fun i hi=>by
   have h3:=sh_there h1 hi (by rw [h];have:=sh_call h1 h;show i<65536;omega)
   rw [getD_eq' hi] at h3
   exact hk _ (List.getElem_mem hi) h3) w B N cs hN hB hE hx) w B N cs hN hB hE hx
 ·have hn:x.args.length=2:=wf_num h1.wf (by rw [h];decide)
  exact src_22 f x h (fun w B N cs hN hB hE hx=>word_22 f x h hn (here 0 (by omega) (by rw [h];decide)) (here 1 (by omega) (by rw [h];decide)) w B N cs hN hB hE hx) w B N cs hN hB hE hx
 ·have hn:x.args.length=1:=wf_num h1.wf (by rw [h];decide)
  have k0:=here 0 (by omega) (by rw [h];decide)
  exact src_23 f x h (fun w B N cs hN hB hE hx=>word_23 f x h hn h1.par (fun i hi=>hf _ (List.getElem_mem hi)) df k0.call k0.size w B N cs hN hB hE hx) w B N cs hN hB hE hx
 ·have hn:x.args.length=1:=wf_num h1.wf (by rw [h];decide)
  exact src_24 f x h hn (opt 0 (by omega)) w B N cs hN hB hE hx
 ·obtain ⟨n,hn⟩:=sh_map h1 h
  have ho:∀ i (hi:i<x.args.length),x.args[i].op≠30:=fun i hi=>by
   have h3:=sh_there h1 hi (by rw [h];show i<65536;omega)
   rwa [getD_eq' hi] at h3
  exact src_25 f x h (fun w B N cs hN hB hE hx=>pairs_r f x h n hn hz (fun i hi=>hk _ (List.getElem_mem hi) (ho i hi)) (fun i hi _ _=>ha _ (List.getElem_mem hi) (ho i hi)) pf w B N cs hN hB hE hx) w B N cs hN hB hE hx
 ·have hn:x.args.length=1:=wf_num h1.wf (by rw [h];decide)
  exact src_26 f x h (fun w B N cs hN hB hE hx=>word_26 f x h hn (here 0 (by omega) (by rw [h];decide)) w B N cs hN hB hE hx) w B N cs hN hB hE hx
 ·exact src_27 f x h (fun w B N cs hN hB hE hx=>word_27 f x h w B N cs hN hB hE hx) w B N cs hN hB hE hx
 ·have hn:x.args.length=2:=wf_num h1.wf (by rw [h];decide)
  exact src_28 f x h (fun w B N cs hN hB hE hx=>infix_28 f x h hn (here 0 (by omega) (by rw [h];decide)) (here 1 (by omega) (by rw [h];decide)) w B N cs hN hB hE hx) (step_pos f x (by omega)) w B N cs hN hB hE hx
 ·have hn:x.args.length=2:=wf_num h1.wf (by rw [h];decide)
  exact src_29 f x h (fun w B N cs hN hB hE hx=>infix_29 f x h hn (here 0 (by omega) (by rw [h];decide)) (here 1 (by omega) (by rw [h];decide)) w B N cs hN hB hE hx) (step_pos f x (by omega)) w B N cs hN hB hE hx
 ·have:=sh_op h1
  omega
theorem src_all:∀ (m:Nat) (x:ExprD),shO m x→ndE m x≤4096→SrcR (showS m) x:=by
 intro m
 induction m with
 | zero =>
   intro x hs _ w B N cs hN hB hE hx
   obtain ⟨h1,ha,hf⟩:=hs
   exact src_step (fun _=>⟨#[]⟩) x h1 (fun a h=>by rw [ha] at h;cases h) (fun u h=>by rw [hf] at h;cases h) (fun a h=>by rw [ha] at h;cases h) (by rw [ha];exact Nat.zero_le _) (by rw [ha];exact Nat.zero_le _) (by rw [hf];exact Nat.zero_le _) w B N cs hN hB hE hx
 | succ m ih =>
   intro x hs hn w B N cs hN hB hE hx
   refine src_step (showS m) x hs.1 (fun a ha h3=>?_) (fun u hu=>?_) (fun a ha h3=>sh_key (shO_1 ((hs.2.1 a ha).resolve_left h3))) (nd_len hn) (Nat.le_trans (pairs_fit hN hs hn hx) (by decide)) (Nat.le_trans (defs_fit hN hs hn hx) (by decide)) w B N cs hN hB hE hx
   ·have h:=(hs.2.1 a ha).resolve_left h3
    obtain ⟨as0,hA⟩:=kid_at hx ha
    exact ⟨sh_op (shO_1 h),fun h17=>by
     have h2:a.args.length=2:=wf_num (shO_1 h).wf (by rw [h17];decide)
     exact ⟨h2,sh_abs (shO_1 h) (getD_mem (by omega))⟩,show_fit hN h (nd_kid hn ha) hA,ih a h (nd_kid hn ha)⟩
   ·have h:=hs.2.2 u hu
    obtain ⟨as0,hA⟩:=body_at hx hu
    exact ⟨ih _ h (nd_body hn hu),show_fit hN h (nd_body hn hu) hA⟩
end Go.Proofs.YtiefeajappjnbaaGreatDoor

/- Text of the program and of the reference: the source, or the error. -/
namespace Go.Proofs.YtiefeajappjnbaaGreatDoor
open Go.RowKit
def txtS (x:ExprD):ByteArray:=if errE x=0 then showS 47 x else ⟨#[]⟩
def TxtR (x:ExprD) (w:World) (e:Ending) (w':World):Prop:=e=.returned (.tuple #[.string (txtS x),.int .i64 (errE x)])∧Below w.heap.size w w'
set_option maxRecDepth 100000 in
set_option maxHeartbeats 3200000 in
theorem text_p (x:ExprD) (w:World) (B N:Nat) (cs:List Value) (hN:N≤1048576) (h4:4≤B) (hB:B≤w.heap.size) (hE:Env w) (hs:smlE x) (hx:ExprD.At w B N x cs):Calls Tryz.prog 8 #[.agg cs.toArray] w (TxtR x w):=by
 have HX:=Hd hx
 have HE:=Hd hE
 have HS:=Hd hs
 have hl:=Hd (show (Tryz.prog.info? 34).map (·.size)=some cs.length by rw [hx.len];kernel_rfl)
 have R0:=Hd (RowT.new w 34 cs)
 have H0:=Hd (belowBox w (.cells cs.toArray 34))
 obtain ⟨f,hf⟩:∃ f,errE x=f:=⟨_,rfl⟩
 have HF:=Hd hf
 clear hx hE hs hf
 go_enter Tryz.func8,Tryz.ntmps8
 go_wp2_with ((with_reducible show wpList _ _ _ (⟨some 5,_,_,_,_,_⟩::_) _ _);refine wpList_load_mid rfl 34 _ rfl w.heap.size 0 rfl cs _ R0.out.range Tryz.underlying34 rfl hl.out ?_)
 refine (check_p x _ B N cs (by omega) h4 (Nat.le_trans hB H0.out.size) (HE.out.then H0.out) HS.out (HX.out.below (H0.out.mono hB))).mono ?_
 rw [HF.out]
 rintro e w1 ⟨rfl,hb1⟩
 have H1:=Hd (belowThen H0.out hb1)
 have R1:=Hd (R0.out.then hb1)
 clear hb1
 by_cases h0:f=0
 ·subst h0
  have HT:=Hd (show txtS x=showS 47 x from if_pos HF.out)
  have HSH:=Hd (show ShwP (showS 47) x from show_all 47 x (err_sh HF.out) (err_size HF.out).2)
  go_wp2_with ((with_reducible show wpList _ _ _ (⟨some 10,_,_,_,_,_⟩::_) _ _);refine wpList_load_mid rfl 34 _ rfl w.heap.size 0 rfl cs _ R1.out.range Tryz.underlying34 rfl hl.out ?_)
  refine (HSH.out _ B N cs hN (Nat.le_trans hB H1.out.size) (HE.out.then H1.out) (HX.out.below (H1.out.mono hB))).mono ?_
  rw [← HT.out]
  rintro e w2 ⟨rfl,hb2⟩
  have H2:=Hd (belowThen H1.out hb2)
  clear hb2
  go_wp2_with fail
  go_ret2
  exact ⟨by rw [HF.out];rfl,H2.out⟩
 ·have HT:=Hd (show txtS x=⟨#[]⟩ from if_neg (by rw [HF.out];exact h0))
  have n1:(f==0)=false:=by simpa using h0
  have n2:(f != 0)=true:=by simpa using h0
  clear h0
  go_wp2_with fail
  go_ret2
  exact ⟨by rw [HT.out,HF.out];rfl,H1.out⟩
set_option maxRecDepth 100000 in
set_option maxHeartbeats 3200000 in
theorem text_r (x:ExprD) (w:World) (B N:Nat) (cs:List Value) (hN:N≤1048576) (hB:B≤w.heap.size) (hE:Env w) (hx:ExprD.At w B N x cs):Calls Tryz.prog 9 #[.agg cs.toArray] w (TxtR x w):=by
 have HX:=Hd hx
 have HE:=Hd hE
 have hl:=Hd (show (Tryz.prog.info? 34).map (·.size)=some cs.length by rw [hx.len];kernel_rfl)
 have R0:=Hd (RowT.new w 34 cs)
 have H0:=Hd (belowBox w (.cells cs.toArray 34))
 obtain ⟨f,hf⟩:∃ f,errE x=f:=⟨_,rfl⟩
 have HF:=Hd hf
 clear hx hE hf
 go_enter Tryz.func9,Tryz.ntmps9
 go_wp2_with ((with_reducible show wpList _ _ _ (⟨some 5,_,_,_,_,_⟩::_) _ _);refine wpList_load_mid rfl 34 _ rfl w.heap.size 0 rfl cs _ R0.out.range Tryz.underlying34 rfl hl.out ?_)
 refine (check_r x _ B N cs (by omega) (Nat.le_trans hB H0.out.size) (HX.out.below (H0.out.mono hB))).mono ?_
 rw [HF.out]
 rintro e w1 ⟨rfl,hb1⟩
 have H1:=Hd (belowThen H0.out hb1)
 have R1:=Hd (R0.out.then hb1)
 clear hb1
 by_cases h0:f=0
 ·subst h0
  have HT:=Hd (show txtS x=showS 47 x from if_pos HF.out)
  have HSH:=Hd (show SrcR (showS 47) x from src_all 47 x (err_sh HF.out) (err_size HF.out).2)
  go_wp2_with ((with_reducible show wpList _ _ _ (⟨some 10,_,_,_,_,_⟩::_) _ _);refine wpList_load_mid rfl 34 _ rfl w.heap.size 0 rfl cs _ R1.out.range Tryz.underlying34 rfl hl.out ?_)
  refine (HSH.out _ B N cs hN (Nat.le_trans hB H1.out.size) (HE.out.then H1.out) (HX.out.below (H1.out.mono hB))).mono ?_
  rw [← HT.out]
  rintro e w2 ⟨rfl,hb2⟩
  have H2:=Hd (belowThen H1.out hb2)
  clear hb2
  go_wp2_with fail
  go_ret2
  exact ⟨by rw [HF.out];rfl,H2.out⟩
 ·have HT:=Hd (show txtS x=⟨#[]⟩ from if_neg (by rw [HF.out];exact h0))
  have n1:(f==0)=false:=by simpa using h0
  have n2:(f != 0)=true:=by simpa using h0
  clear h0
  go_wp2_with fail
  go_ret2
  exact ⟨by rw [HT.out,HF.out];rfl,H1.out⟩
end Go.Proofs.YtiefeajappjnbaaGreatDoor

/- The law QparseTexts: it says yes. -/
namespace Go.Proofs.YtiefeajappjnbaaGreatDoor
open Go.RowKit
def YesT (w:World) (e:Ending) (w':World):Prop:=e=.returned (.bool true)∧Below w.heap.size w w'
set_option maxRecDepth 100000 in
set_option maxHeartbeats 6400000 in
theorem lawT (x:ExprD) (w:World) (N:Nat) (cs:List Value) (hN:N≤1048576) (h4:4≤w.heap.size) (hE:Env w) (hx:ExprD.At w w.heap.size N x cs) :
 Calls Tryz.prog 3 #[.agg cs.toArray] w (YesT w):=by
 have HX:=Hd hx
 have HE:=Hd hE
 have hl:=Hd (show (Tryz.prog.info? 34).map (·.size)=some cs.length by rw [hx.len];kernel_rfl)
 have H0:=Hd (show Below w.heap.size w (w.alloc (.cells cs.toArray 34)) from belowBox w _)
 have R0:=Hd (RowT.new w 34 cs)
 obtain ⟨f,hf⟩:∃ f,errE x=f:=⟨_,rfl⟩
 have HF:=Hd hf
 obtain ⟨s,hs⟩:∃ s,txtS x=s:=⟨_,rfl⟩
 have HS:=Hd hs
 clear hx hE hf hs
 go_enter Tryz.func3,Tryz.ntmps3
 go_wp2_with ((with_reducible show wpList _ _ _ (⟨some 7,_,_,_,_,_⟩::_) _ _);refine wpList_load_mid rfl 34 _ rfl w.heap.size 0 rfl cs _ R0.out.range Tryz.underlying34 rfl hl.out ?_)
 refine (small_x 60 x _ w.heap.size N cs 300 (by omega) (by omega) (by omega) (by omega) H0.out.size (HX.out.below H0.out)).mono ?_
 rintro e w1 ⟨k,rfl,hk0,hk1,HK,hb1⟩
 have H1:=Hd (belowThen H0.out hb1)
 have R1:=Hd (R0.out.then hb1)
 clear hb1
 by_cases hk:k<0
 ·go_wp2_with fail
  go_ret
  exact ⟨rfl,H1.out⟩
 have HSM:=Hd (HK.out (by omega))
 go_wp2_with ((with_reducible show wpList _ _ _ (⟨some 11,_,_,_,_,_⟩::_) _ _);refine wpList_load_mid rfl 34 _ rfl w.heap.size 0 rfl cs _ R1.out.range Tryz.underlying34 rfl hl.out ?_)
 refine (text_p x _ w.heap.size N cs hN h4 H1.out.size (HE.out.then H1.out) HSM.out (HX.out.below H1.out)).mono ?_
 rintro e w2 ⟨rfl,hb2⟩
 have H2:=Hd (belowThen H1.out hb2)
 have R2:=Hd (R1.out.then hb2)
 clear hb2
 rw [HF.out,HS.out]
 go_wp2_with ((with_reducible show wpList _ _ _ (⟨some 16,_,_,_,_,_⟩::_) _ _);refine wpList_load_mid rfl 34 _ rfl w.heap.size 0 rfl cs _ R2.out.range Tryz.underlying34 rfl hl.out ?_)
 refine (text_r x _ w.heap.size N cs hN H2.out.size (HE.out.then H2.out) (HX.out.below H2.out)).mono ?_
 rintro e w3 ⟨rfl,hb3⟩
 have H3:=Hd (belowThen H2.out hb3)
 clear hb3
 rw [HF.out,HS.out]
 have hsb:(s.toList==s.toList)=true:=by simp
 have hfb:(f==f)=true:=by simp
 go_wp2_with fail
 go_ret
 exact ⟨rfl,H3.out⟩
end Go.Proofs.YtiefeajappjnbaaGreatDoor
