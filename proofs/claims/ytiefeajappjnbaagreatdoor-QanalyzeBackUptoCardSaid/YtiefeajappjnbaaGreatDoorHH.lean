/- The result of Plan: its error and its plan; what an accepted program gives for it. The expression of the input, on both sides. -/
import Derived.Test.YtiefeajappjnbaaGreatDoorGA
import Derived.Test.YtiefeajappjnbaaGreatDoorGZ
import Derived.Test.YtiefeajappjnbaaGreatDoorHG
import Derived.Test.YtiefeajappjnbaaGreatDoorHF
import Derived.Test.YtiefeajappjnbaaGreatDoorCpx43
namespace Go.Proofs.YtiefeajappjnbaaGreatDoor
open Go.RowKit
def iF (l:List al) (x:ag):Int:=if dP l x≠0 then dP l x else if cy x=none then 22 else 0
def iE (l:List al) (x:ag):br:=if dP l x≠0 then vD else (cy x).getD vD
def kq (l:List al) (x:ag):List al:=if dP l x≠0 then [] else if cy x=none then [] else l
def dI (N:Nat) (l:List al) (x:ag) (w:World) (e:Ending) (w':World):Prop:=∃ (ps:List Value) (k:Int),e=.returned (.tuple #[.agg ps.toArray,.int .i64 k])∧Hid (k=iF l x)∧Hid (dc w' w'.heap.size N (iE l x) (kq l x) ps)∧Below w.heap.size w w'
theorem dI.bad {N:Nat} {l:List al} {x:ag} {w w':World} (h:dP l x≠0) (hb:Below w.heap.size w w'):dI N l x w (.returned (.tuple #[.agg aB.toArray,.int .i64 (dP l x)])) w' :=
 ⟨aB,_,rfl,Hd (by unfold iF;rw [if_pos h]),Hd (by unfold iE kq;rw [if_pos h,if_pos h];exact dM _ _ _),hb⟩
theorem dI.no {N:Nat} {l:List al} {x:ag} {w w':World} (h:dP l x=0) (hn:cy x=none) (hb:Below w.heap.size w w'):dI N l x w (.returned (.tuple #[.agg aB.toArray,.int .i64 22])) w' :=
 ⟨aB,_,rfl,Hd (by unfold iF;rw [if_neg (fun g=>g h),if_pos hn]),Hd (by unfold iE kq;rw [if_neg (fun g=>g h),if_neg (fun g=>g h),if_pos hn,hn];exact dM _ _ _),hb⟩
theorem dI.yes {N:Nat} {l:List al} {x:ag} {w w':World} {d:br} {ps:List Value} (h:dP l x=0) (hd:cy x=some d) (hp:dc w' w'.heap.size N d l ps) (hb:Below w.heap.size w w'):dI N l x w (.returned (.tuple #[.agg ps.toArray,.int .i64 0])) w' :=
 ⟨ps,0,rfl,Hd (by unfold iF;rw [if_neg (fun g=>g h),if_neg (by rw [hd];simp)]),Hd (by unfold iE kq;rw [if_neg (fun g=>g h),if_neg (fun g=>g h),if_neg (by rw [hd];simp),hd];exact hp),hb⟩
theorem lQ {l:List al} {x:ag} (h:dP l x=0):eH x=0:=by
 unfold dP at h
 split at h
 ·simp at h
 split at h
 ·rename_i h2;exact absurd h h2
 split at h
 ·rename_i h2;exact absurd h h2
 ·rename_i h2;exact Classical.not_not.1 h2
theorem Ax {l:List al}:∀ (n k:Nat),n=l.length-k→chF l k=0→∀ i,k≤i→(hi:i<l.length)→fnC l i l[i]=0:=by
 intro n
 induction n with
 | zero =>
   intro k hn _ i hk hi
   omega
 | succ n ih =>
   intro k hn h i hk hi
   rw [mv (by omega)] at h
   split at h
   ·rename_i h2;exact absurd h h2
   rename_i h2
   rcases Nat.lt_or_ge k i with h3 | h3
   ·exact ih (k+1) (by omega) h i h3 hi
   ·obtain rfl:i=k:=by omega
    exact Classical.not_not.1 h2
theorem nj {l:List al} {x:ag} (h:dP l x=0):∀ f∈l,dpE 47 f.body:=by
 intro f hf
 obtain ⟨i,hi,rfl⟩:=List.getElem_of_mem hf
 unfold dP at h
 split at h
 ·simp at h
 split at h
 ·rename_i h2;exact absurd h h2
 rename_i h2
 have h3:=Ax _ 0 rfl (Classical.not_not.1 h2) i (by omega) hi
 unfold fnC at h3
 split at h3
 ·rename_i h4;exact absurd h3 h4
 split at h3
 ·rename_i h4;exact absurd h3 h4
 ·rename_i h4;exact (mi (Classical.not_not.1 h4)).1
theorem fR {m:Nat} {x:ag} (h:dpE (m+1) x) (i:Nat) (hi:i<x.args.length):dpE m x.args[i]:=h.1 _ (List.getElem_mem hi)
theorem tu:dpE 0 fG:=⟨rfl,rfl⟩
theorem mn:dpE 0 fu:=⟨rfl,rfl⟩
theorem lZ {x:ag} (h:x.op=9) (hl:0<x.args.length):dR x=x.args[0]:=by unfold dR;rw [if_pos h,bU hl]
theorem pP {x:ag} (h:x.op≠9):dR x=x:=by unfold dR;rw [if_neg h]
theorem mD {x:ag} (h:x.op=9) (hl:1<x.args.length):gg x=x.args[1]:=by unfold gg;rw [if_pos h,bU hl]
theorem qI {x:ag} (h:x.op≠9):gg x=fu:=by unfold gg;rw [if_neg h]
theorem ji {x e:ag} {b:ag} (he:dR x=e) (hb:gg x=b) (hf:fy e=false):cy x=(cQ (dZ 47 e)).map fun l=>⟨1,l,⟨#[]⟩,fG,fG,b⟩:=by
 unfold cy
 rw [he,hb,hf,if_neg (by decide)]
theorem kp {x e:ag} {b:ag} (he:dR x=e) (hb:gg x=b) (hf:fy e=true) (hl:2<e.args.length) :
 cy x=if kD 47 e.args[1]=false then none else (cQ (dZ 47 e.args[0])).map fun l=>⟨if e.op=20 then 3 else 2,l,e.name,e.args[1],e.args[2],b⟩:=by
 unfold cy
 rw [he,hb,hf,if_pos rfl,bU (by omega:1<e.args.length),bU (by omega:0<e.args.length),bU hl]
theorem gr {o:Option (List aL)} {l:List aL} (h:cQ o=some l):l.length≤48:=by
 unfold cQ at h
 cases o with
 | none=>cases h
 | some l' =>
   simp only [Option.bind_some] at h
   split at h
   ·cases h;rename_i g;exact g.2
   ·cases h
def IdR (w:World) (e:Ending) (w':World):Prop:=e=.returned (.agg #[.int .i64 1,.string ⟨#[]⟩,.int .i64 0,.bool false,.bool false,.string ⟨#[]⟩,.int .i64 0,.int .i64 0,.int .i64 0,.int .i64 0,.int .i64 0,.string ⟨#[]⟩,.slice none 0 0,.slice none 0 0,.slice none 0 0,.slice none 0 0,.slice none 0 0])∧Below w.heap.size w w'
def AY:Array Value:=#[.int .i64 1,.string ⟨#[]⟩,.int .i64 0,.bool false,.bool false,.string ⟨#[]⟩,.int .i64 0,.int .i64 0,.int .i64 0,.int .i64 0,.int .i64 0,.string ⟨#[]⟩,.slice none 0 0,.slice none 0 0,.slice none 0 0,.slice none 0 0,.slice none 0 0]
set_option maxRecDepth 100000 in
set_option maxHeartbeats 1600000 in
theorem iK (w:World):Calls Tryz.prog 46 #[] w (IdR w):=by
 go_enter Tryz.func46,Tryz.ntmps46
 go_wp2_with (refine ak rfl 34 _ _ rfl bH AY rfl rfl ay rfl (by decide) ?_)
 refine bodyPost_ret (results_cell_row rfl _ _ w.heap.size 34 _ (0,0) _ rfl (heap_alloc_new w _) Tryz.underlying34 rfl ay) rfl ?_
 exact ⟨rfl,af _ _⟩
set_option maxRecDepth 100000 in
set_option maxHeartbeats 1600000 in
theorem s4 (w:World):Calls Tryz.prog 90 #[] w (IdR w):=by
 go_enter Tryz.func90,Tryz.ntmps90
 go_wp2_with (refine ak rfl 34 _ _ rfl bH AY rfl rfl ay rfl (by decide) ?_)
 refine bodyPost_ret (results_cell_row rfl _ _ w.heap.size 34 _ (0,0) _ rfl (heap_alloc_new w _) Tryz.underlying34 rfl ay) rfl ?_
 exact ⟨rfl,af _ _⟩
end Go.Proofs.YtiefeajappjnbaaGreatDoor

/- The reference's Constant (datakitref43): of an accepted expression it says what kD says. -/
namespace Go.Proofs.YtiefeajappjnbaaGreatDoor
open Go.RowKit
def Be (b:Bool) (w:World) (e:Ending) (w':World):Prop:=e=.returned (.bool b)∧Below w.heap.size w w'
theorem ss {g:ag→Bool} {x:ag} (h:x.op=3):cW g x=true:=by unfold cW;rw [if_pos h]
theorem ph {g:ag→Bool} {x:ag} (h3:x.op≠3) (h24:x.op≠24) (h11:x.op≠11) (h25:x.op≠25):cW g x=false:=by
 unfold cW
 rw [if_neg h3,if_neg h24,if_neg (by rintro (h | h);exact h11 h;exact h25 h)]
end Go.Proofs.YtiefeajappjnbaaGreatDoor

/- qanalyze.constant (with absent, zero, empty): of an accepted expression it says what kD says. -/
namespace Go.Proofs.YtiefeajappjnbaaGreatDoor
open Go.RowKit
set_option maxRecDepth 100000 in
set_option maxHeartbeats 1600000 in
theorem Aj (v:ar) (hz:bj v=true) (w:World) (B N:Nat) (cs:List Value) (hv:ar.At w B N v cs):Calls Tryz.prog 99 #[.agg cs.toArray] w (cq true w):=by
 obtain ⟨ya,la,va,yc,lc,vc,hh⟩:=hv.has
 obtain ⟨h0,h1,h2,h3,h4,h5,h6,h7⟩:=of_decide_eq_true hz
 have c0:cs[0]?=some (.int .i64 0):=by rw [hh.kind,h0]
 have c1:cs[1]?=some (.bool false):=by rw [hh.bool,h1]
 have c2:=hh.neg
 have c3:=hh.digits
 have c4:=hh.exp
 have c5:=hh.tkind
 have c6:=hh.day
 have c7:=hh.nano
 have c8:=hh.offset
 have c9:=hh.text
 have c10:cs[10]?=some (.slice ya 0 yc):=by rw [hh.bytes,h5]
 have c11:cs[11]?=some (.slice la 0 lc):=by rw [hh.list,h6]
 have c12:cs[12]?=some (.slice va 0 vc):=by rw [hh.fields,h7]
 have E1:=il v.num
 have E2:=iO v.time
 rw [h2] at E1
 rw [h3] at E2
 have G1:=dw
 have G2:=dE
 have ht:v.text.toList=[]:=bv h4
 clear hv hh h0 h1 h2 h3 h4 h5 h6 h7 hz
 go_enter Tryz.func99,Tryz.ntmps99
 go_wp2
 all_goals
  go_ret
  exact ⟨rfl,Below.box _ _⟩
set_option maxRecDepth 100000 in
set_option maxHeartbeats 1600000 in
theorem Bg (x:ag) (w:World) (B N:Nat) (cs:List Value) (h0:x.op=0) (h1:x.name.size=0) (hz:bj x.val=true) (h3:x.args.length=0) (h4:x.funcs.length=0) (hB:B≤w.heap.size) (he:ag.At w B N x cs):Calls Tryz.prog 54 #[.agg cs.toArray] w (cq true w):=by
 obtain ⟨aa,fa,ac,fc,vs,hh⟩:=he.has
 have H0:=Hd (show Below w.heap.size w (w.alloc (.cells cs.toArray 34)) from af w _)
 have hvr:=Hd (show (w.alloc (.cells cs.toArray 34)).rangeAt w.heap.size (0+2) vs from (hh.valRange (aA w cs 34)).range)
 have HV:=Hd (show ar.At (w.alloc (.cells cs.toArray 34)) B N x.val vs from hh.atVal.below (H0.out.mono hB))
 have hl:=Hd (show (Tryz.prog.info? 30).map (·.size)=some vs.length by rw [hh.atVal.len];exact bM)
 have hs0:=Hd (show w.heap.size<(w.alloc (.cells cs.toArray 34)).heap.size by rw [World.size_alloc];omega)
 have HX:=Hd (aA w cs 34)
 have HZ:=Hd hz
 have c0:cs[0]?=some (.int .i64 0):=by rw [hh.op,h0]
 have c1:=hh.name
 have c15:cs[15]?=some (.slice aa 0 ac):=by rw [hh.args,h3]
 have c16:cs[16]?=some (.slice fa 0 fc):=by rw [hh.funcs,h4]
 have ht:x.name.toList=[]:=bv h1
 clear hh he h0 h1 hz h3 h4
 go_enter Tryz.func54,Tryz.ntmps54
 go_wp2_with (refine aG rfl 30 _ rfl w.heap.size (0+2) rfl vs _ hvr.out Tryz.underlying30 rfl hl.out ?_)
 refine (Aj x.val HZ.out _ B N vs HV.out).mono ?_
 rintro e w1 ⟨rfl,hb1⟩
 have H1:=Hd (ae H0.out hb1)
 have d15:=(HX.out.then hb1 hs0.out).get0 c15
 have d16:=(HX.out.then hb1 hs0.out).get0 c16
 clear hb1
 go_wp2_with fail
 go_ret
 exact ⟨rfl,H1.out⟩
theorem ag.At.op0 {w:World} {B N:Nat} {x:ag} {cs:List Value} (h:ag.At w B N x cs):ag.At w B N (.mk 0 x.name x.val x.args x.funcs) (cs.set 0 (.int .i64 0)):=by
 obtain ⟨op,nm,v,xs,fs⟩:=x
 obtain ⟨vs,aa,fa,ac,fc,rfl,hown,hv,has,hfs,hc⟩:=h
 exact ⟨vs,aa,fa,ac,fc,rfl,⟨show I64 0 by unfold I64;omega,hown.2⟩,hv,has,hfs,hc⟩
set_option maxRecDepth 100000 in
set_option maxHeartbeats 1600000 in
theorem oQ (x:ag) (w:World) (B N:Nat) (cs:List Value) (hx:dX x=true) (hB:B≤w.heap.size) (he:ag.At w B N x cs):Calls Tryz.prog 96 #[.agg cs.toArray] w (cq true w):=by
 obtain ⟨aa,fa,ac,fc,vs,hh⟩:=he.has
 obtain ⟨h0,h1,hz,h3,h4⟩:=of_decide_eq_true hx
 have c0:cs[0]?=some (.int .i64 30):=by rw [hh.op,h0]
 have hlen:=he.len
 have HP:=Hd he.op0
 obtain ⟨w1,hw1⟩:∃ w1,w1=w.alloc (.cells (cs.set 0 (.int .i64 0)).toArray 34):=⟨_,rfl⟩
 have R1:=Hd (show bE w1 w.heap.size (cs.set 0 (.int .i64 0)) from by rw [hw1];exact heap_alloc_new w _)
 have H1:=Hd (show Below w.heap.size w w1 by rw [hw1];exact af w _)
 have hl:=Hd (show (Tryz.prog.info? 34).map (·.size)=some (cs.set 0 (.int .i64 0)).length by rw [List.length_set,hlen];exact ay)
 have HC:=Hd (And.intro h1 (And.intro hz (And.intro h3 h4)))
 have HW:=Hd hw1
 clear hh he h0 h1 hz h3 h4 hx hw1 hlen
 go_enter Tryz.func96,Tryz.ntmps96
 go_wp2_with (refine aG rfl 34 _ rfl w.heap.size 0 rfl (cs.set 0 (.int .i64 0)) _ (by rw [← HW.out];exact R1.out.range) Tryz.underlying34 rfl hl.out ?_)
 rw [← HW.out]
 refine (Bg (.mk 0 x.name x.val x.args x.funcs) _ B N _ rfl HC.out.1 HC.out.2.1 HC.out.2.2.1 HC.out.2.2.2 (Nat.le_trans hB H1.out.size) (HP.out.below (H1.out.mono hB))).mono ?_
 rintro e w2 ⟨rfl,hb2⟩
 have H2:=Hd (ae H1.out hb2)
 clear hb2
 go_wp2_with fail
 go_ret
 exact ⟨rfl,H2.out⟩
set_option maxRecDepth 100000 in
set_option maxHeartbeats 1600000 in
theorem qP (x:ag) (w:World) (B N:Nat) (cs:List Value) (h:x.op≠30) (he:ag.At w B N x cs):Calls Tryz.prog 96 #[.agg cs.toArray] w (cq false w):=by
 obtain ⟨aa,fa,ac,fc,vs,hh⟩:=he.has
 have c0:=hh.op
 have H0:=Hd (af w (.cells (cs.set 0 (.int .i64 0)).toArray 34))
 clear hh he
 generalize x.op=o at *
 have e30:(o==30)=false:=by simpa using h
 go_enter Tryz.func96,Tryz.ntmps96
 go_wp2_with fail
 go_ret
 exact ⟨rfl,H0.out⟩
def eK (D:Int) (g:ag→Bool) (x:ag):Prop:=∀ (w:World) (B N:Nat) (cs:List Value),N≤1048576→B≤w.heap.size→ag.At w B N x cs→Calls Tryz.prog 49 #[.agg cs.toArray,.int .i64 D] w (Be (g x) w)
set_option maxRecDepth 100000 in
set_option maxHeartbeats 1600000 in
theorem yo (D:Int) (hD0:1≤D) (hD:D≤48) (g:ag→Bool) (x:ag) (h:x.op=3):eK D (cW g) x:=by
 intro w B N cs hN hB hx
 obtain ⟨aa,fa,ac,fc,vs,hh⟩:=hx.has
 have c0:cs[0]?=some (.int .i64 3):=by rw [hh.op,h]
 have H0:=Hd (af w (.cells cs.toArray 34))
 have HG:=Hd (ss (g:=g) h)
 clear hx hh h
 go_enter Tryz.func49,Tryz.ntmps49
 go_wp2_with fail
 go_ret
 exact ⟨by rw [HG.out];rfl,H0.out⟩
set_option maxRecDepth 100000 in
set_option maxHeartbeats 1600000 in
theorem lq (D:Int) (g:ag→Bool) (x:ag) (h3:x.op≠3) (h24:x.op≠24) (h11:x.op≠11) (h25:x.op≠25):eK D (cW g) x:=by
 intro w B N cs hN hB hx
 obtain ⟨aa,fa,ac,fc,vs,hh⟩:=hx.has
 have c0:cs[0]?=some (.int .i64 x.op):=hh.op
 have H0:=Hd (af w (.cells cs.toArray 34))
 have HG:=Hd (ph (g:=g) h3 h24 h11 h25)
 clear hx hh
 generalize x.op=o at *
 have e3:(o==3)=false:=by simpa using h3
 have e24:(o==24)=false:=by simpa using h24
 have e11:(o==11)=false:=by simpa using h11
 have e25:(o==25)=false:=by simpa using h25
 by_cases hD:D≤48
 ·go_enter Tryz.func49,Tryz.ntmps49
  go_wp2_with fail
  go_ret
  exact ⟨by rw [HG.out];rfl,H0.out⟩
 ·have hD':48<D:=by omega
  clear hD
  go_enter Tryz.func49,Tryz.ntmps49
  go_wp2_with fail
  go_ret
  exact ⟨by rw [HG.out];rfl,H0.out⟩
set_option maxRecDepth 100000 in
set_option maxHeartbeats 3200000 in
theorem tD (D:Int) (hD0:1≤D) (hD:D≤48) (g:ag→Bool) (x:ag) (h:x.op=11) (h1':x.args.length=1) (hk:∀ k (h:k<x.args.length),eK (D+1) g x.args[k]):eK D (cW g) x:=by
 intro w B N cs hN hB hx
 obtain ⟨aa,fa,ac,fc,vs,hh⟩:=hx.has
 have hl:0<x.args.length:=by omega
 have c0:cs[0]?=some (.int .i64 11):=by rw [hh.op,h]
 have c15:cs[15]?=some (.slice aa 1 ac):=by rw [hh.args,h1']
 have HK:=Hd (hk 0 hl)
 have H0:=Hd (af w (.cells cs.toArray 34))
 have HG:=Hd (show cW g x=g x.args[0] by
  obtain ⟨y,hy⟩:∃ y,x.args=[y]:=List.length_eq_one_iff.1 h1'
  unfold cW
  rw [h]
  simp [hy])
 obtain ⟨b,o,rfl,hb,hget⟩:=hh.atArgs.get (by intro h;simp [h] at hl)
 obtain ⟨cs1,h1,h2⟩:=hget 0 hl
 rw [Nat.zero_mul,Nat.add_zero] at h1
 have H1:=Hd (h1.below (H0.out.mono hB) hb)
 have HX:=Hd (h2.below (H0.out.mono hB))
 have hl1:=Hd (show (Tryz.prog.info? 34).map (·.size)=some cs1.length by rw [h2.len];exact ay)
 clear hx hh h hk hget h1 h2 h1'
 obtain ⟨v,hv⟩:∃ v,g x.args[0]=v:=⟨_,rfl⟩
 have HV:=Hd hv
 clear hv
 go_enter Tryz.func49,Tryz.ntmps49
 go_wp2_with (refine ax rfl 34 _ rfl b o rfl cs1 _ H1.out.range Tryz.underlying34 rfl hl1.out ?_)
 refine (HK.out _ B N cs1 hN (Nat.le_trans hB H0.out.size) HX.out).mono ?_
 rintro e w2 ⟨rfl,hb2⟩
 have H2:=Hd (ae H0.out hb2)
 clear hb2
 rw [HV.out]
 cases v
 all_goals
  go_wp2_with fail
  go_ret
  exact ⟨by rw [HG.out,HV.out];rfl,H2.out⟩
set_option maxRecDepth 100000 in
set_option maxHeartbeats 3200000 in
theorem Ar (D:Int) (hD0:1≤D) (hD:D≤48) (g:ag→Bool) (x:ag) (h:x.op=24) (h1':x.args.length=1) (ha:∀ (h:0<x.args.length),x.args[0].op=30→dX x.args[0]=true) (hk:∀ k (h:k<x.args.length),eK (D+1) g x.args[k]):eK D (cW g) x:=by
 intro w B N cs hN hB hx
 obtain ⟨aa,fa,ac,fc,vs,hh⟩:=hx.has
 have hl:0<x.args.length:=by omega
 have c0:cs[0]?=some (.int .i64 24):=by rw [hh.op,h]
 have c15:cs[15]?=some (.slice aa 1 ac):=by rw [hh.args,h1']
 have HK:=Hd (hk 0 hl)
 have HA:=Hd (ha hl)
 have H0:=Hd (af w (.cells cs.toArray 34))
 have HG:=Hd (show cW g x=(decide (x.args[0].op=30) || g x.args[0]) by unfold cW;rw [h,bU hl];rfl)
 obtain ⟨b,o,rfl,hb,hget⟩:=hh.atArgs.get (by intro h;simp [h] at hl)
 obtain ⟨cs1,h1,h2⟩:=hget 0 hl
 rw [Nat.zero_mul,Nat.add_zero] at h1
 have H1:=Hd (h1.below (H0.out.mono hB) hb)
 have HX:=Hd (h2.below (H0.out.mono hB))
 have HR0:=Hd (aA w cs 34)
 have hs0:=Hd (show w.heap.size<(w.alloc (.cells cs.toArray 34)).heap.size by rw [World.size_alloc];omega)
 have hl1:=Hd (show (Tryz.prog.info? 34).map (·.size)=some cs1.length by rw [h2.len];exact ay)
 have Hb:=Hd hb
 clear hx hh h hk hget h1 h2 h1' ha hb
 obtain ⟨v,hv⟩:∃ v,g x.args[0]=v:=⟨_,rfl⟩
 have HV:=Hd hv
 clear hv
 go_enter Tryz.func49,Tryz.ntmps49
 go_wp2_with (refine ax rfl 34 _ rfl b o rfl cs1 _ H1.out.range Tryz.underlying34 rfl hl1.out ?_)
 by_cases hz:x.args[0].op=30
 ·refine (oQ _ _ B N cs1 (HA.out hz) (Nat.le_trans hB H0.out.size) HX.out).mono ?_
  rintro e w2 ⟨rfl,hb2⟩
  have H2:=Hd (ae H0.out hb2)
  have HD:=Hd (show decide (x.args[0].op=30)=true by simpa using hz)
  clear hb2 hz
  go_wp2_with fail
  go_ret
  exact ⟨by rw [HG.out,HD.out];rfl,H2.out⟩
 ·refine (qP _ _ B N cs1 hz HX.out).mono ?_
  rintro e w2 ⟨rfl,hb2⟩
  have H2:=Hd (ae H0.out hb2)
  have HD:=Hd (show decide (x.args[0].op=30)=false by simpa using hz)
  have H12:=Hd (H1.out.below (hb2.mono (Nat.le_trans hB H0.out.size)) Hb.out)
  have HX2:=Hd (HX.out.below (hb2.mono (Nat.le_trans hB H0.out.size)))
  have d15:=(HR0.out.then hb2 hs0.out).get0 c15
  clear hb2 hz
  go_wp2_with (refine ax rfl 34 _ rfl b o rfl cs1 _ H12.out.range Tryz.underlying34 rfl hl1.out ?_)
  refine (HK.out _ B N cs1 hN (Nat.le_trans hB H2.out.size) HX2.out).mono ?_
  rintro e w3 ⟨rfl,hb3⟩
  have H3:=Hd (ae H2.out hb3)
  clear hb3
  rw [HV.out]
  cases v
  all_goals
   go_wp2_with fail
   go_ret
   exact ⟨by rw [HG.out,HV.out,HD.out];rfl,H3.out⟩
set_option maxRecDepth 100000 in
set_option maxHeartbeats 3200000 in
theorem tC (D:Int) (hD0:1≤D) (hD:D≤48) (g:ag→Bool) (x:ag) (h:x.op=25) (hk:∀ k (h:k<x.args.length),eK (D+1) g x.args[k]):eK D (cW g) x:=by
 intro w B N cs hN hB hx
 obtain ⟨aa,fa,ac,fc,vs,hh⟩:=hx.has
 have c0:cs[0]?=some (.int .i64 25):=by rw [hh.op,h]
 have c15:=hh.args
 have hal:x.args.length≤N:=hh.own.2.2.1
 have HAS:=Hd hh.atArgs
 have HK:=Hd hk
 have H0:=Hd (af w (.cells cs.toArray 34))
 have hs0:w.heap.size<(w.alloc (.cells cs.toArray 34)).heap.size:=by rw [World.size_alloc];omega
 have HG:=Hd (show cW g x=(x.args.drop 0).all g by unfold cW;rw [h];simp)
 clear hx hh h hk
 go_enter Tryz.func49,Tryz.ntmps49
 go_wp2_with fail
 go_simp
 go_loopw [55] (fun i wr=>∃ (k:Nat),k≤x.args.length∧i=.int .i64 k∧Hid (cW g x=(x.args.drop k).all g)∧Hid (Below w.heap.size w wr)∧w.heap.size<wr.heap.size)
  (fun i _=>x.args.length-(intOf i).toNat)
 case atStart=>exact ⟨0,by omega,rfl,HG,H0,hs0⟩
 case round =>
  clear HG H0 hs0
  obtain ⟨w1,rfl⟩:∃ w1,w1=wr:=⟨wr,rfl⟩
  obtain ⟨k,hkl,rfl,HG,H0,hs⟩:=hrel
  by_cases hlt:k<x.args.length
  ·obtain ⟨b,o,rfl,hb,hget⟩:=HAS.out.get (by intro h;simp [h] at hlt)
   obtain ⟨cs1,h1,h2⟩:=hget k hlt
   have HR:=Hd (h1.below (H0.out.mono hB) hb).range
   have HX:=Hd ((h2.below (H0.out.mono hB)).below ((af w1 (.cells cs1.toArray 34)).mono (Nat.le_trans hB H0.out.size)))
   have HBX:=Hd (aA w1 cs1 34).range
   have H1:=Hd (ae H0.out (af w1 (.cells cs1.toArray 34)))
   have hl1:=Hd (show (Tryz.prog.info? 34).map (·.size)=some cs1.length by rw [h2.len];exact ay)
   have hl2:=Hd (show (Tryz.prog.info? 34).map (·.size)=some cs1.toArray.size by rw [List.size_toArray,h2.len];exact ay)
   have hl3:=Hd (show bH.size=cs1.toArray.size by show 17=_;rw [List.size_toArray,h2.len])
   have hone:=Hd (show cs1.toArray.all (·.oneCell')=true from Go.all_oneCell_toArray h2.one)
   have HST:=Hd (show (x.args.drop k).all g=(g x.args[k]&&(x.args.drop (k+1)).all g) by rw [List.drop_eq_getElem_cons hlt,List.all_cons])
   clear h1 h2 hget
   go_wp2_with (first
    | (refine wpList_load_mid rfl 34 _ rfl b (o+k * 17) rfl cs1 _ HR.out Tryz.underlying34 rfl hl1.out ?_)
    | (refine ak rfl 34 _ _ rfl bH cs1.toArray rfl rfl hl2.out hl3.out hone.out ?_)
    | (refine wpList_load_mid rfl 34 _ rfl w1.heap.size 0 rfl cs1 _ HBX.out Tryz.underlying34 rfl hl1.out ?_))
   refine (HK.out k hlt _ B N cs1 hN (Nat.le_trans hB H1.out.size) HX.out).mono ?_
   rintro e w2 ⟨rfl,hb2⟩
   have H2:=Hd (ae H1.out hb2)
   have hs2:w.heap.size<w2.heap.size:=by
    have h3:=hb2.size
    rw [World.size_alloc] at h3
    omega
   clear hb2
   obtain ⟨v,hv⟩:∃ v,g x.args[k]=v:=⟨_,rfl⟩
   have HV:=Hd hv
   rw [hv]
   clear hv
   cases v
   ·go_wp2_with fail
    go_ret
    exact ⟨by rw [HG.out,HST.out,HV.out];rfl,H2.out⟩
   ·go_wp2_with fail
    go_roundw
    case rel=>exact ⟨k+1,by omega,by go_num,Hd (by rw [HG.out,HST.out,HV.out];rfl),H2,hs2⟩
    case measure=>simp [intOf];omega
  ·obtain rfl:k=x.args.length:=by omega
   go_wp2_with fail
   go_ret
   exact ⟨by rw [HG.out,List.drop_length];rfl,H0.out⟩
theorem tB (D:Int) (m:Nat) {x:ag} (h:x.op=30):eK D (kD m) x:=by
 cases m with
 | zero=>exact lq D _ x (by omega) (by omega) (by omega) (by omega)
 | succ m=>exact lq D _ x (by omega) (by omega) (by omega) (by omega)
theorem nK (D:Int) (hD0:1≤D) (hD:D≤48) (g:ag→Bool) (x:ag) (h1:wf1 x) (hk:∀ k (h:k<x.args.length),eK (D+1) g x.args[k]):eK D (cW g) x:=by
 by_cases h3:x.op=3
 ·exact yo D hD0 hD g x h3
 by_cases h24:x.op=24
 ·have hl:=eE h1 (n:=1) (by rw [h24];decide)
  exact Ar D hD0 hD g x h24 hl (fun h ho=>(Bi h1 h ho).2) hk
 by_cases h11:x.op=11
 ·have hl:=eE h1 (n:=1) (by rw [h11];decide)
  exact tD D hD0 hD g x h11 hl hk
 by_cases h25:x.op=25
 ·exact tC D hD0 hD g x h25 hk
 exact lq D g x h3 h24 h11 h25
theorem yn:∀ (m:Nat) (D:Int) (x:ag),1≤D→D+m≤48→wfE m x→eK D (kD m) x:=by
 intro m
 induction m with
 | zero =>
   intro D x hD0 hD h
   exact nK D hD0 (by omega) _ x (gM h) (fun k hk=>by rw [h.2.1] at hk;simp at hk)
 | succ m ih =>
   intro D x hD0 hD h
   refine nK D hD0 (by omega) _ x (gM h) (fun k hk=>?_)
   rcases h.2.1 _ (List.getElem_mem hk) with h1 | h1
   ·exact tB (D+1) m h1
   ·exact ih (D+1) _ (by omega) (by omega) h1
end Go.Proofs.YtiefeajappjnbaaGreatDoor
