/- A literal's source: the program's lit (printed by genlit36.py). -/
import Derived.Test.YtiefeajappjnbaaGreatDoorGA
import Derived.Test.YtiefeajappjnbaaGreatDoorNum36
import Derived.Test.YtiefeajappjnbaaGreatDoorMD
import Derived.Test.YtiefeajappjnbaaGreatDoorMA
namespace Go.Proofs.YtiefeajappjnbaaGreatDoor
open Go.RowKit
structure LitP (v:ValD):Prop where
 kind:v.kind=0∨v.kind=1∨v.kind=2∨v.kind=4
 num:v.kind=2→v.num.neg=false∧VDec v.num
 text:v.kind=4→v.text.size≤65536∧validS v.text=true
theorem range3 {w:World} {b o:Nat} {x y z:Value} (h0:w.cell? ⟨b,o,none⟩=some x) (h1:w.cell? ⟨b,o+1,none⟩=some y) (h2:w.cell? ⟨b,o+2,none⟩=some z):w.rangeAt b o [x,y,z]:=by
 intro j v hj
 match j,hj with
 | 0,hj=>simp at hj;subst hj;exact h0
 | 1,hj=>simp at hj;subst hj;exact h1
 | 2,hj=>simp at hj;subst hj;exact h2
 | j+3,hj=>simp at hj
set_option maxRecDepth 100000 in
set_option maxHeartbeats 6400000 in
theorem slit_p (v:ValD) (hl:LitP v) (w:World) (B N:Nat) (vs:List Value) (hE:Env w) (hv:ValD.At w B N v vs):Calls Tryz.prog 56 #[.agg vs.toArray] w (StrB (litS v) w):=by
 obtain ⟨ya,la,va,yc,lc,vc,hh⟩:=hv.has
 have HE:=Hd hE
 have HL:=Hd hl
 obtain ⟨k,hk⟩:∃ k,v.kind=k:=⟨_,rfl⟩
 have HK:=Hd hk
 have HC0:=Hd (show vs[0]?=some (.int .i64 k) by rw [← hk];exact hh.kind)
 have R0:=Hd (RowT.new w 30 vs)
 have H0:=Hd (belowBox w (.cells vs.toArray 30))
 have HB:=Hd hh.bool
 have HC2:=Hd hh.neg
 have HC3:=Hd hh.digits
 have HC4:=Hd hh.exp
 have HC9:=Hd hh.text
 have e0:=R0.out.cell HC0.out
 have hkk:=hl.kind
 rw [hk] at hkk
 clear hv hE hl hh hk
 rcases hkk with rfl | rfl | rfl | rfl
 ·have HR:=Hd (show litS v=⟨#[110,117,108,108]⟩ by unfold litS;rw [HK.out];rfl)
  go_enter Tryz.func56,Tryz.ntmps56
  go_wp2_with fail
  go_ret
  exact ⟨by rw [HR.out];rfl,H0.out⟩
 ·have e1:=R0.out.cell HB.out
  obtain ⟨bb,hbb⟩:∃ bb,v.bool=bb:=⟨_,rfl⟩
  have HBB:=Hd hbb
  rw [hbb] at e1
  clear hbb
  cases bb
  ·have HR:=Hd (show litS v=⟨#[102,97,108,115,101]⟩ by unfold litS;rw [HK.out,HBB.out];rfl)
   go_enter Tryz.func56,Tryz.ntmps56
   go_wp2_with fail
   go_ret
   exact ⟨by rw [HR.out];rfl,H0.out⟩
  ·have HR:=Hd (show litS v=⟨#[116,114,117,101]⟩ by unfold litS;rw [HK.out,HBB.out];rfl)
   go_enter Tryz.func56,Tryz.ntmps56
   go_wp2_with fail
   go_ret
   exact ⟨by rw [HR.out];rfl,H0.out⟩
 ·obtain ⟨hneg,hvd⟩:=HL.out.num HK.out
  obtain ⟨ds,hds⟩:∃ ds,v.num.digits=ds:=⟨_,rfl⟩
  obtain ⟨ex,hex⟩:∃ ex,v.num.exp=ex:=⟨_,rfl⟩
  have hnum:v.num=⟨false,ds,ex⟩:=by
   rw [← hneg,← hds,← hex]
  have HVD:=Hd (show VDec ⟨false,ds,ex⟩ by rw [← hnum];exact hvd)
  have HRG:=Hd (range3 (b:=w.heap.size) (o:=2) (R0.out.cell (j:=2) (v:=.bool false) (by rw [← hneg];exact HC2.out)) (R0.out.cell (j:=3) (v:=.string ds) (by rw [← hds];exact HC3.out)) (R0.out.cell (j:=4) (v:=.int .i64 ex) (by rw [← hex];exact HC4.out)))
  have HR:=Hd (show litS v=numT ⟨false,ds,ex⟩ by unfold litS;rw [HK.out,hnum];rfl)
  have hl3:=Hd (show (Tryz.prog.info? 23).map (·.size)=some ([Value.bool false,.string ds,.int .i64 ex]:List Value).length by kernel_rfl)
  clear hneg hvd hds hex hnum
  go_enter Tryz.func56,Tryz.ntmps56
  go_wp2_with ((with_reducible show wpList _ _ _ (⟨some 12,_,_,_,_,_⟩::_) _ _);refine wpList_load_mid rfl 23 _ rfl w.heap.size 2 rfl [.bool false,.string ds,.int .i64 ex] _ HRG.out Tryz.underlying23 rfl hl3.out ?_)
  refine (dtext ds ex HVD.out _).mono ?_
  rintro e w1 ⟨rfl,hb1⟩
  have H1:=Hd (belowThen H0.out hb1)
  clear hb1
  go_wp2_with fail
  go_ret
  exact ⟨by rw [HR.out];rfl,H1.out⟩
 ·obtain ⟨tx,htx⟩:∃ tx,v.text=tx:=⟨_,rfl⟩
  have HT:=Hd (HL.out.text HK.out)
  rw [htx] at HT
  have e9:=R0.out.cell (j:=9) (v:=.string tx) (by rw [← htx];exact HC9.out)
  have HR:=Hd (show litS v=quoteS tx by unfold litS;rw [HK.out,htx];rfl)
  clear htx
  go_enter Tryz.func56,Tryz.ntmps56
  go_wp2_with fail
  refine (quote_w tx _ HT.out.1 (HE.out.then H0.out) HT.out.2).mono ?_
  rintro e w1 ⟨rfl,hb1⟩
  have H1:=Hd (belowThen H0.out hb1)
  clear hb1
  go_wp2_with fail
  go_ret
  exact ⟨by rw [HR.out];rfl,H1.out⟩
set_option maxRecDepth 100000 in
set_option maxHeartbeats 6400000 in
theorem show_3 (f:ExprD→ByteArray) (x:ExprD) (ho:x.op=3) (hl:LitP x.val)
 (w:World) (B N:Nat) (cs:List Value) (hB:B≤w.heap.size) (hE:Env w) (hx:ExprD.At w B N x cs):Calls Tryz.prog 22 #[.agg cs.toArray] w (StrB (stepT f x) w):=by
 have HE:=Hd hE
 have HO:=Hd ho
 have HL:=Hd hl
 obtain ⟨aa,fa,ac,fc,vs,hh⟩:=hx.has
 have HC0:=Hd (show cs[0]?=some (.int .i64 3) by rw [← ho];exact hh.op)
 have HVS:=Hd hh.val
 have HVA:=Hd hh.atVal
 have hlv:=Hd (show (Tryz.prog.info? 30).map (·.size)=some vs.length by
  obtain ⟨_,_,_,_,_,_,gv⟩:=hh.atVal.has
  rw [gv.len];kernel_rfl)
 have R0:=Hd (RowT.new w 34 cs)
 have H0:=Hd (belowBox w (.cells cs.toArray 34))
 have e0:=R0.out.cell HC0.out
 have HR:=Hd (show stepT f x=litS x.val by
  unfold stepT
  rw [HO.out]
  simp only [if_true,if_false,Int.reduceEq])
 clear hx hE hh ho hl
 go_enter Tryz.func22,Tryz.ntmps22
 go_wp2_with ((with_reducible show wpList _ _ _ (⟨some 17,_,_,_,_,_⟩::_) _ _);refine wpList_load_mid rfl 30 _ rfl w.heap.size 2 rfl vs _ (R0.out.cells.partU HVS.out) Tryz.underlying30 rfl hlv.out ?_)
 refine (slit_p x.val HL.out _ B N vs (HE.out.then H0.out) (HVA.out.below (H0.out.mono hB))).mono ?_
 rintro e w1 ⟨rfl,hb1⟩
 have H1:=Hd (belowThen H0.out hb1)
 clear hb1
 go_wp2_with fail
 go_ret
 exact ⟨by rw [HR.out];rfl,H1.out⟩
end Go.Proofs.YtiefeajappjnbaaGreatDoor

/- What an accepted node offers to those who write its source. No program here. -/
namespace Go.Proofs.YtiefeajappjnbaaGreatDoor
open Go.RowKit
theorem sh_op {e:ExprD} (h:Sh1 e):1≤e.op∧e.op≤29:=by
 have h1:=of_decide_eq_true h.wf.1
 exact ⟨h1.1,h1.2.1⟩
theorem getD_mem {l:List ExprD} {k:Nat} (h:k<l.length):l.getD k default∈l:=by
 rw [List.getD_eq_getElem?_getD,List.getElem?_eq_getElem h]
 exact List.getElem_mem h
theorem getD_eq' {l:List ExprD} {k:Nat} (h:k<l.length):l.getD k default=l[k]:=by
 rw [List.getD_eq_getElem?_getD,List.getElem?_eq_getElem h]
 rfl
theorem sh_there {e:ExprD} (h:Sh1 e) {k:Nat} (hk:k<e.args.length) (ho:k<optE e.op):(e.args.getD k default).op≠30:=by
 intro h3
 rw [getD_eq' hk] at h3
 have:=(wf_abs h.wf hk h3).1
 omega
theorem sh_abs {e:ExprD} (h:Sh1 e) {a:ExprD} (ha:a∈e.args) (h3:a.op=30):absB a=true:=by
 obtain ⟨i,hi,rfl⟩:=List.getElem_of_mem ha
 exact (wf_abs h.wf hi h3).2
theorem sh_one {e:ExprD} (h:Sh1 e) (h3:e.op=3):oneE e.val=0:=by
 have hc:=h.wf.2 h3
 rcases Classical.em (oneE e.val=0) with h | h
 ·exact h
 ·exfalso
  have h1:(lookD 48 e.val 0).2=0:=hc
  rw [show lookD 48 e.val 0=(if 65536≤(0:Int) then (0,10) else if oneE e.val=0 then kidsL (lookD 47) (kidsD e.val) (0+1) else (0,oneE e.val)) from rfl,if_neg (by decide),if_neg h] at h1
  exact h h1
theorem one_text {v:ValD} (h:oneE v=0):validS v.text=true∧v.text.size≤65536:=by
 unfold oneE at h
 split at h
 ·simp at h
 split at h
 ·simp at h
 split at h
 ·simp at h
 rename_i h3
 split at h
 ·simp at h
 rename_i h4
 exact ⟨by simpa using h3,by omega⟩
theorem sh_lit {e:ExprD} (h:Sh1 e) (h3:e.op=3):LitP e.val:=by
 obtain ⟨_,_,_,_,_,_,_,_,_,_,_,hl,_⟩:=of_decide_eq_true h.wf.1
 have hk:=of_decide_eq_true (hl h3)
 obtain ⟨hd,hn,_⟩:=wf_dec h.wf
 obtain ⟨ht,hz⟩:=one_text (sh_one h h3)
 exact ⟨by omega,fun _=>⟨hn,hd⟩,fun _=>⟨hz,ht⟩⟩
theorem sh_key {e:ExprD} (h:Sh1 e):KeyP e:=by
 by_cases h3:e.op=3
 ·obtain ⟨ht,hz⟩:=one_text (sh_one h h3)
  exact ⟨hz,ht⟩
 ·obtain ⟨_,_,_,_,_,_,_,_,hz,_⟩:=of_decide_eq_true h.wf.1
  have hz':=of_decide_eq_true (hz.resolve_left h3)
  have ht:e.val.text.size=0:=hz'.2.2.2.2.1
  exact ⟨by omega,by unfold validS;rw [ht];rfl⟩
theorem sh_name5 {e:ExprD} (h:Sh1 e) (h5:e.op=5):validS e.name=true∧e.name.size≤1024:=by
 have hr:=h.rg
 unfold rgB at hr
 rw [if_pos h5] at hr
 simpa using hr
theorem sh_funs {e:ExprD} (h:Sh1 e) (h3:e.op≠23):e.funcs=[]:=form_funs h.wf.1 h3
theorem sh_map {e:ExprD} (h:Sh1 e) (h5:e.op=25):∃ n,e.args.length=2 * n:=by
 obtain ⟨_,_,_,_,h2,_⟩:=of_decide_eq_true h.wf.1
 have:=h2 h5
 exact ⟨e.args.length / 2,by omega⟩
theorem sh_call {e:ExprD} (h:Sh1 e) (h5:e.op=21):e.args.length≤8:=by
 obtain ⟨_,_,_,h2,_⟩:=of_decide_eq_true h.wf.1
 exact h2 h5
end Go.Proofs.YtiefeajappjnbaaGreatDoor
