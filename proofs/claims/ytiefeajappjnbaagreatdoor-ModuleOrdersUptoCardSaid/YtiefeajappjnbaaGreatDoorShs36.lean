/- qparse.show writes the source of every accepted expression. -/
import Derived.Test.YtiefeajappjnbaaGreatDoorMG
import Derived.Test.YtiefeajappjnbaaGreatDoorMI
namespace Go.Proofs.YtiefeajappjnbaaGreatDoor
open Go.RowKit
set_option maxHeartbeats 3200000 in
theorem show_step (f:ExprD→ByteArray) (x:ExprD) (h1:Sh1 x) (hk:∀ a∈x.args,a.op≠30→KidP f a) (hf:∀ u∈x.funcs,KidP f u.body) (ha:∀ a∈x.args,a.op≠30→KeyP a) (hz:x.args.length≤4096)
 (pf:(joinS ⟨#[44,32]⟩ (pairsS f x.args)).size≤140737488355328) (df:(defsS f x.funcs).size≤549755813888)
 (w:World) (B N:Nat) (cs:List Value) (hN:N≤1048576) (hB:B≤w.heap.size) (hE:Env w) (hx:ExprD.At w B N x cs):Calls Tryz.prog 22 #[.agg cs.toArray] w (StrB (stepT f x) w):=by
 have kid:∀ k,k<x.args.length→(x.args.getD k default).op≠30→KidP f (x.args.getD k default):=fun k h h3=>hk _ (getD_mem h) h3
 have here:∀ k,k<x.args.length→k<optE x.op→KidP f (x.args.getD k default):=fun k h h2=>kid k h (sh_there h1 h h2)
 rcases ops31 (show 1≤x.op∧x.op≤30 by have:=sh_op h1;omega) with h | h | h | h | h | h | h | h | h | h | h | h | h | h | h | h | h | h | h | h | h | h | h | h | h | h | h | h | h | h
 ·exact show_1 f x h w B N cs hN hB hE hx
 ·exact show_2 f x h w B N cs hN hB hE hx
 ·exact show_3 f x h (sh_lit h1 h) w B N cs hB hE hx
 ·exact show_4 f x h w B N cs hN hB hE hx
 ·have hn:x.args.length=1:=wf_num h1.wf (by rw [h];decide)
  have k0:=here 0 (by omega) (by rw [h];decide)
  have hq:=sh_name5 h1 h
  refine show_post_5 f x h (fun w B N cs hN hB hE hx=>?_) w B N cs hN hB hE hx
  by_cases hi:(x.args.getD 0 default).op=1
  ·cases hna:nameB x.name
   ·exact post_5_iq f x h hn k0 hi hna hq w B N cs hN hB hE hx
   ·exact post_5_in f x h hn k0 hi hna hq w B N cs hN hB hE hx
  ·cases hna:nameB x.name
   ·exact post_5_aq f x h hn k0 hi hna hq w B N cs hN hB hE hx
   ·exact post_5_an f x h hn k0 hi hna hq w B N cs hN hB hE hx
 ·have hn:x.args.length=2:=wf_num h1.wf (by rw [h];decide)
  exact show_post_6 f x h (fun w B N cs hN hB hE hx=>post_6 f x h hn (here 0 (by omega) (by rw [h];decide)) (here 1 (by omega) (by rw [h];decide)) w B N cs hN hB hE hx) w B N cs hN hB hE hx
 ·have hn:x.args.length=3:=wf_num h1.wf (by rw [h];decide)
  exact show_post_7 f x h (fun w B N cs hN hB hE hx=>post_7 f x h hn (here 0 (by omega) (by rw [h];decide)) (kid 1 (by omega)) (kid 2 (by omega)) w B N cs hN hB hE hx) w B N cs hN hB hE hx
 ·have hn:x.args.length=1:=wf_num h1.wf (by rw [h];decide)
  exact show_post_8 f x h (fun w B N cs hN hB hE hx=>post_8 f x h hn (here 0 (by omega) (by rw [h];decide)) w B N cs hN hB hE hx) w B N cs hN hB hE hx
 ·have hn:x.args.length=2:=wf_num h1.wf (by rw [h];decide)
  exact show_bin_9 f x h (fun w B N cs hN hB hE hx=>binary_p f x (by omega) hn (here 0 (by omega) (by rw [h];decide)) (here 1 (by omega) (by rw [h];decide)) w B N cs hN hB hE hx) w B N cs hN hB hE hx
 ·have hn:x.args.length=2:=wf_num h1.wf (by rw [h];decide)
  exact show_bin_10 f x h (fun w B N cs hN hB hE hx=>binary_p f x (by omega) hn (here 0 (by omega) (by rw [h];decide)) (here 1 (by omega) (by rw [h];decide)) w B N cs hN hB hE hx) w B N cs hN hB hE hx
 ·have hn:x.args.length=1:=wf_num h1.wf (by rw [h];decide)
  exact show_11 f x h hn (here 0 (by omega) (by rw [h];decide)) w B N cs hN hB hE hx
 ·have hn:x.args.length=2:=wf_num h1.wf (by rw [h];decide)
  exact show_bin_12 f x h (fun w B N cs hN hB hE hx=>binary_p f x (by omega) hn (here 0 (by omega) (by rw [h];decide)) (here 1 (by omega) (by rw [h];decide)) w B N cs hN hB hE hx) w B N cs hN hB hE hx
 ·have hn:x.args.length=2:=wf_num h1.wf (by rw [h];decide)
  exact show_bin_13 f x h (fun w B N cs hN hB hE hx=>binary_p f x (by omega) hn (here 0 (by omega) (by rw [h];decide)) (here 1 (by omega) (by rw [h];decide)) w B N cs hN hB hE hx) w B N cs hN hB hE hx
 ·have hn:x.args.length=2:=wf_num h1.wf (by rw [h];decide)
  exact show_bin_14 f x h (fun w B N cs hN hB hE hx=>binary_p f x (by omega) hn (here 0 (by omega) (by rw [h];decide)) (here 1 (by omega) (by rw [h];decide)) w B N cs hN hB hE hx) w B N cs hN hB hE hx
 ·have hn:x.args.length=2:=wf_num h1.wf (by rw [h];decide)
  exact show_bin_15 f x h (fun w B N cs hN hB hE hx=>binary_p f x (by omega) hn (here 0 (by omega) (by rw [h];decide)) (here 1 (by omega) (by rw [h];decide)) w B N cs hN hB hE hx) w B N cs hN hB hE hx
 ·have hn:x.args.length=2:=wf_num h1.wf (by rw [h];decide)
  exact show_bin_16 f x h (fun w B N cs hN hB hE hx=>binary_p f x (by omega) hn (here 0 (by omega) (by rw [h];decide)) (here 1 (by omega) (by rw [h];decide)) w B N cs hN hB hE hx) w B N cs hN hB hE hx
 ·have hn:x.args.length=2:=wf_num h1.wf (by rw [h];decide)
  have k0:=here 0 (by omega) (by rw [h];decide)
  by_cases hi:(x.args.getD 1 default).op=30
  ·exact show_17_n f x h hn k0 hi w B N cs hN hB hE hx
  ·exact show_17_c f x h hn k0 (kid 1 (by omega) hi) hi w B N cs hN hB hE hx
 ·have hn:x.args.length=3:=wf_num h1.wf (by rw [h];decide)
  have k0:=here 0 (by omega) (by rw [h];decide)
  have k1:=here 1 (by omega) (by rw [h];decide)
  by_cases hi:(x.args.getD 2 default).op=30
  ·exact show_18_n f x h hn k0 k1 hi w B N cs hN hB hE hx
  ·exact show_18_e f x h hn k0 k1 (kid 2 (by omega) hi) hi w B N cs hN hB hE hx
 ·have hn:x.args.length=3:=wf_num h1.wf (by rw [h];decide)
  exact show_19 f x h hn (here 0 (by omega) (by rw [h];decide)) (here 1 (by omega) (by rw [h];decide)) (here 2 (by omega) (by rw [h];decide)) w B N cs hN hB hE hx
 ·have hn:x.args.length=4:=wf_num h1.wf (by rw [h];decide)
  exact show_20 f x h hn (here 0 (by omega) (by rw [h];decide)) (here 1 (by omega) (by rw [h];decide)) (here 2 (by omega) (by rw [h];decide)) (kid 3 (by omega)) w B N cs hN hB hE hx
 ·by_cases h0:x.args=[]
  ·exact show_21_0 f x h h0 w B N cs hN hB hE hx
  ·exact show_21_n f x h h0 (sh_call h1 h) (fun i hi=>by
    have h3:=sh_there h1 hi (by rw [h];have:=sh_call h1 h;show i<65536;omega)
    rw [getD_eq' hi] at h3
    exact ⟨h3,hk _ (List.getElem_mem hi) h3⟩) w B N cs hN hB hE hx
 ·have hn:x.args.length=2:=wf_num h1.wf (by rw [h];decide)
  exact show_22 f x h hn (here 0 (by omega) (by rw [h];decide)) (here 1 (by omega) (by rw [h];decide)) w B N cs hN hB hE hx
 ·have hn:x.args.length=1:=wf_num h1.wf (by rw [h];decide)
  have k0:=here 0 (by omega) (by rw [h];decide)
  exact show_23 f x h hn h1.par (fun i hi=>hf _ (List.getElem_mem hi)) df k0.call k0.size w B N cs hN hB hE hx
 ·have hn:x.args.length=1:=wf_num h1.wf (by rw [h];decide)
  exact show_24 f x h hn (kid 0 (by omega)) w B N cs hN hB hE hx
 ·obtain ⟨n,hn⟩:=sh_map h1 h
  have ho:∀ i (hi:i<x.args.length),x.args[i].op≠30:=fun i hi=>by
   have h3:=sh_there h1 hi (by rw [h];show i<65536;omega)
   rwa [getD_eq' hi] at h3
  exact show_25 f x h n hn hz (fun i hi=>hk _ (List.getElem_mem hi) (ho i hi)) (fun i hi=>ha _ (List.getElem_mem hi) (ho i hi)) pf w B N cs hN hB hE hx
 ·have hn:x.args.length=1:=wf_num h1.wf (by rw [h];decide)
  exact show_26 f x h hn (here 0 (by omega) (by rw [h];decide)) w B N cs hN hB hE hx
 ·exact show_27 f x h w B N cs hN hB hE hx
 ·have hn:x.args.length=2:=wf_num h1.wf (by rw [h];decide)
  exact show_bin_28 f x h (fun w B N cs hN hB hE hx=>binary_p f x (by omega) hn (here 0 (by omega) (by rw [h];decide)) (here 1 (by omega) (by rw [h];decide)) w B N cs hN hB hE hx) w B N cs hN hB hE hx
 ·have hn:x.args.length=2:=wf_num h1.wf (by rw [h];decide)
  exact show_bin_29 f x h (fun w B N cs hN hB hE hx=>binary_p f x (by omega) hn (here 0 (by omega) (by rw [h];decide)) (here 1 (by omega) (by rw [h];decide)) w B N cs hN hB hE hx) w B N cs hN hB hE hx
 ·have:=sh_op h1
  omega
theorem kid_at {w:World} {B N:Nat} {x:ExprD} {cs:List Value} (hx:ExprD.At w B N x cs) {a:ExprD} (ha:a∈x.args):∃ es,ExprD.At w B N a es:=by
 obtain ⟨aa,fa,ac,fc,vs,hh⟩:=hx.has
 obtain ⟨i,hi,rfl⟩:=List.getElem_of_mem ha
 obtain ⟨b,o,_,_,hget⟩:=hh.atArgs.get (by intro h;simp [h] at hi)
 obtain ⟨as0,_,hA⟩:=hget i hi
 exact ⟨as0,hA⟩
theorem body_at {w:World} {B N:Nat} {x:ExprD} {cs:List Value} (hx:ExprD.At w B N x cs) {u:FuncD} (hu:u∈x.funcs):∃ es,ExprD.At w B N u.body es:=by
 obtain ⟨aa,fa,ac,fc,vs,hh⟩:=hx.has
 obtain ⟨i,hi,rfl⟩:=List.getElem_of_mem hu
 obtain ⟨b,o,_,_,hget⟩:=hh.atFuncs.get (by intro h;simp [h] at hi)
 obtain ⟨fs,_,hF⟩:=hget i hi
 obtain ⟨pa,pc,es,hF⟩:=hF.has
 exact ⟨es,hF.atBody⟩
theorem show_all:∀ (m:Nat) (x:ExprD),shO m x→ndE m x≤4096→ShwP (showS m) x:=by
 intro m
 induction m with
 | zero =>
   intro x hs _ w B N cs hN hB hE hx
   obtain ⟨h1,ha,hf⟩:=hs
   exact show_step (fun _=>⟨#[]⟩) x h1 (fun a h=>by rw [ha] at h;cases h) (fun u h=>by rw [hf] at h;cases h) (fun a h=>by rw [ha] at h;cases h) (by rw [ha];exact Nat.zero_le _) (by rw [ha];exact Nat.zero_le _) (by rw [hf];exact Nat.zero_le _) w B N cs hN hB hE hx
 | succ m ih =>
   intro x hs hn w B N cs hN hB hE hx
   refine show_step (showS m) x hs.1 (fun a ha h3=>?_) (fun u hu=>?_) (fun a ha h3=>sh_key (shO_1 ((hs.2.1 a ha).resolve_left h3))) (nd_len hn) (Nat.le_trans (pairs_fit hN hs hn hx) (by decide)) (Nat.le_trans (defs_fit hN hs hn hx) (by decide)) w B N cs hN hB hE hx
   ·have h:=(hs.2.1 a ha).resolve_left h3
    obtain ⟨as0,hA⟩:=kid_at hx ha
    exact ⟨sh_op (shO_1 h),fun h17=>wf_num (shO_1 h).wf (by rw [h17];decide),show_fit hN h (nd_kid hn ha) hA,ih a h (nd_kid hn ha)⟩
   ·have h:=hs.2.2 u hu
    obtain ⟨as0,hA⟩:=body_at hx hu
    exact ⟨sh_op (shO_1 h),fun h17=>wf_num (shO_1 h).wf (by rw [h17];decide),show_fit hN h (nd_body hn hu) hA,ih _ h (nd_body hn hu)⟩
end Go.Proofs.YtiefeajappjnbaaGreatDoor
