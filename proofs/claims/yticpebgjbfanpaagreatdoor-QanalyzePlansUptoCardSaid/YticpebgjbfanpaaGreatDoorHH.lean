/- The result of Plan: its error and its plan;what an accepted program gives for it. The expression of the input,on both sides. -/
import Derived.Test.YticpebgjbfanpaaGreatDoorGA
import Derived.Test.YticpebgjbfanpaaGreatDoorGZ
import Derived.Test.YticpebgjbfanpaaGreatDoorHG
import Derived.Test.YticpebgjbfanpaaGreatDoorHF
import Derived.Test.YticpebgjbfanpaaGreatDoorCpx43
namespace Go.Proofs.YticpebgjbfanpaaGreatDoor
open Go.RowKit
def planErr (l:List FuncD) (x:ExprD):Int:=if prgE l x≠0 then prgE l x else if planS x=none then 22 else 0
def planRes (l:List FuncD) (x:ExprD):PlnD:=if prgE l x≠0 then zeroP else (planS x).getD zeroP
def planFs (l:List FuncD) (x:ExprD):List FuncD:=if prgE l x≠0 then [] else if planS x=none then [] else l
def PlanR (N:Nat) (l:List FuncD) (x:ExprD) (w:World) (e:Ending) (w':World):Prop:=∃ (ps:List Value) (k:Int),e=.returned (.tuple #[.agg ps.toArray,.int .i64 k])∧Hid (k=planErr l x)∧Hid (PlnAt w' w'.heap.size N (planRes l x) (planFs l x) ps)∧Below w.heap.size w w'
theorem PlanR.bad {N:Nat} {l:List FuncD} {x:ExprD} {w w':World} (h:prgE l x≠0) (hb:Below w.heap.size w w'):PlanR N l x w (.returned (.tuple #[.agg zeroPL.toArray,.int .i64 (prgE l x)])) w' :=
 ⟨zeroPL,_,rfl,Hd (by unfold planErr;rw [if_pos h]),Hd (by unfold planRes planFs;rw [if_pos h,if_pos h];exact zeroP_at _ _ _),hb⟩
theorem PlanR.no {N:Nat} {l:List FuncD} {x:ExprD} {w w':World} (h:prgE l x=0) (hn:planS x=none) (hb:Below w.heap.size w w'):PlanR N l x w (.returned (.tuple #[.agg zeroPL.toArray,.int .i64 22])) w' :=
 ⟨zeroPL,_,rfl,Hd (by unfold planErr;rw [if_neg (fun g=>g h),if_pos hn]),Hd (by unfold planRes planFs;rw [if_neg (fun g=>g h),if_neg (fun g=>g h),if_pos hn,hn];exact zeroP_at _ _ _),hb⟩
theorem PlanR.yes {N:Nat} {l:List FuncD} {x:ExprD} {w w':World} {d:PlnD} {ps:List Value} (h:prgE l x=0) (hd:planS x=some d) (hp:PlnAt w' w'.heap.size N d l ps) (hb:Below w.heap.size w w'):PlanR N l x w (.returned (.tuple #[.agg ps.toArray,.int .i64 0])) w' :=
 ⟨ps,0,rfl,Hd (by unfold planErr;rw [if_neg (fun g=>g h),if_neg (by rw [hd];simp)]),Hd (by unfold planRes planFs;rw [if_neg (fun g=>g h),if_neg (fun g=>g h),if_neg (by rw [hd];simp),hd];exact hp),hb⟩
theorem prg_main {l:List FuncD} {x:ExprD} (h:prgE l x=0):errE x=0:=by
 unfold prgE at h
 split at h
 ·simp at h
 split at h
 ·rename_i h2;exact absurd h h2
 split at h
 ·rename_i h2;exact absurd h h2
 ·rename_i h2;exact Classical.not_not.1 h2
theorem chF_all {l:List FuncD}:∀ (n k:Nat),n=l.length-k→chF l k=0→∀ i,k≤i→(hi:i<l.length)→fnC l i l[i]=0:=by
 intro n
 induction n with
 | zero =>
   intro k hn _ i hk hi
   omega
 | succ n ih =>
   intro k hn h i hk hi
   rw [chF_step (by omega)] at h
   split at h
   ·rename_i h2;exact absurd h h2
   rename_i h2
   rcases Nat.lt_or_ge k i with h3 | h3
   ·exact ih (k+1) (by omega) h i h3 hi
   ·obtain rfl:i=k:=by omega
    exact Classical.not_not.1 h2
theorem prg_funcs {l:List FuncD} {x:ExprD} (h:prgE l x=0):∀ f∈l,dpE 47 f.body:=by
 intro f hf
 obtain ⟨i,hi,rfl⟩:=List.getElem_of_mem hf
 unfold prgE at h
 split at h
 ·simp at h
 split at h
 ·rename_i h2;exact absurd h h2
 rename_i h2
 have h3:=chF_all _ 0 rfl (Classical.not_not.1 h2) i (by omega) hi
 unfold fnC at h3
 split at h3
 ·rename_i h4;exact absurd h3 h4
 split at h3
 ·rename_i h4;exact absurd h3 h4
 ·rename_i h4;exact (err_size (Classical.not_not.1 h4)).1
theorem dp_arg {m:Nat} {x:ExprD} (h:dpE (m+1) x) (i:Nat) (hi:i<x.args.length):dpE m x.args[i]:=h.1 _ (List.getElem_mem hi)
theorem dp_zero:dpE 0 zeroE:=⟨rfl,rfl⟩
theorem dp_ident:dpE 0 identE:=⟨rfl,rfl⟩
theorem mainP_pipe {x:ExprD} (h:x.op=9) (hl:0<x.args.length):mainP x=x.args[0]:=by unfold mainP;rw [if_pos h,argN_get hl]
theorem mainP_no {x:ExprD} (h:x.op≠9):mainP x=x:=by unfold mainP;rw [if_neg h]
theorem bodyP_pipe {x:ExprD} (h:x.op=9) (hl:1<x.args.length):bodyP x=x.args[1]:=by unfold bodyP;rw [if_pos h,argN_get hl]
theorem bodyP_no {x:ExprD} (h:x.op≠9):bodyP x=identE:=by unfold bodyP;rw [if_neg h]
theorem plan_plain {x e:ExprD} {b:ExprD} (he:mainP x=e) (hb:bodyP x=b) (hf:foldP e=false):planS x=(okSel (selS 47 e)).map fun l=>⟨1,l,⟨#[]⟩,zeroE,zeroE,b⟩:=by
 unfold planS
 rw [he,hb,hf,if_neg (by decide)]
theorem plan_fold {x e:ExprD} {b:ExprD} (he:mainP x=e) (hb:bodyP x=b) (hf:foldP e=true) (hl:2<e.args.length) :
 planS x=if conS 47 e.args[1]=false then none else (okSel (selS 47 e.args[0])).map fun l=>⟨if e.op=20 then 3 else 2,l,e.name,e.args[1],e.args[2],b⟩:=by
 unfold planS
 rw [he,hb,hf,if_pos rfl,argN_get (by omega:1<e.args.length),argN_get (by omega:0<e.args.length),argN_get hl]
theorem okSel_some {o:Option (List SelD)} {l:List SelD} (h:okSel o=some l):l.length≤48:=by
 unfold okSel at h
 cases o with
 | none=>cases h
 | some l' =>
   simp only [Option.bind_some] at h
   split at h
   ·cases h;rename_i g;exact g.2
   ·cases h
def IdR (w:World) (e:Ending) (w':World):Prop:=e=.returned (.agg #[.int .i64 1,.string ⟨#[]⟩,.int .i64 0,.bool false,.bool false,.string ⟨#[]⟩,.int .i64 0,.int .i64 0,.int .i64 0,.int .i64 0,.int .i64 0,.string ⟨#[]⟩,.slice none 0 0,.slice none 0 0,.slice none 0 0,.slice none 0 0,.slice none 0 0])∧Below w.heap.size w w'
def idArr:Array Value:=#[.int .i64 1,.string ⟨#[]⟩,.int .i64 0,.bool false,.bool false,.string ⟨#[]⟩,.int .i64 0,.int .i64 0,.int .i64 0,.int .i64 0,.int .i64 0,.string ⟨#[]⟩,.slice none 0 0,.slice none 0 0,.slice none 0 0,.slice none 0 0,.slice none 0 0]
set_option maxRecDepth 100000 in
set_option maxHeartbeats 1600000 in
theorem ident_p (w:World):Calls Tryz.prog 19 #[] w (IdR w):=by
 go_enter Tryz.func19,Tryz.ntmps19
 go_wp2_with (refine wpList_store_new rfl 34 _ _ rfl zeroEA idArr rfl rfl sizeE rfl (by decide) ?_)
 refine bodyPost_ret (results_cell_row rfl _ _ w.heap.size 34 _ (0,0) _ rfl (heap_alloc_new w _) Tryz.underlying34 rfl sizeE) rfl ?_
 exact ⟨rfl,belowBox _ _⟩
set_option maxRecDepth 100000 in
set_option maxHeartbeats 1600000 in
theorem ident_r (w:World):Calls Tryz.prog 25 #[] w (IdR w):=by
 go_enter Tryz.func25,Tryz.ntmps25
 go_wp2_with (refine wpList_store_new rfl 34 _ _ rfl zeroEA idArr rfl rfl sizeE rfl (by decide) ?_)
 refine bodyPost_ret (results_cell_row rfl _ _ w.heap.size 34 _ (0,0) _ rfl (heap_alloc_new w _) Tryz.underlying34 rfl sizeE) rfl ?_
 exact ⟨rfl,belowBox _ _⟩
end Go.Proofs.YticpebgjbfanpaaGreatDoor

/- The reference's Constant (datakitref43): of an accepted expression it says what conS says. -/
namespace Go.Proofs.YticpebgjbfanpaaGreatDoor
open Go.RowKit
def BoolB (b:Bool) (w:World) (e:Ending) (w':World):Prop:=e=.returned (.bool b)∧Below w.heap.size w w'
def ConR (g:ExprD→Bool) (x:ExprD):Prop:=∀ (w:World) (B N:Nat) (cs:List Value),N≤1048576→B≤w.heap.size→ExprD.At w B N x cs→Calls Tryz.prog 26 #[.agg cs.toArray] w (BoolB (g x) w)
theorem stepC_3 {g:ExprD→Bool} {x:ExprD} (h:x.op=3):stepC g x=true:=by unfold stepC;rw [if_pos h]
theorem stepC_no {g:ExprD→Bool} {x:ExprD} (h3:x.op≠3) (h24:x.op≠24) (h11:x.op≠11) (h25:x.op≠25):stepC g x=false:=by
 unfold stepC
 rw [if_neg h3,if_neg h24,if_neg (by rintro (h | h);exact h11 h;exact h25 h)]
set_option maxRecDepth 100000 in
set_option maxHeartbeats 1600000 in
theorem conr_3 (g:ExprD→Bool) (x:ExprD) (h:x.op=3):ConR (stepC g) x:=by
 intro w B N cs hN hB hx
 obtain ⟨aa,fa,ac,fc,vs,hh⟩:=hx.has
 have c0:cs[0]?=some (.int .i64 3):=by rw [hh.op,h]
 have H0:=Hd (belowBox w (.cells cs.toArray 34))
 have HG:=Hd (stepC_3 (g:=g) h)
 clear hx hh h
 go_enter Tryz.func26,Tryz.ntmps26
 go_wp2_with fail
 go_ret
 exact ⟨by rw [HG.out];rfl,H0.out⟩
set_option maxRecDepth 100000 in
set_option maxHeartbeats 1600000 in
theorem conr_no (g:ExprD→Bool) (x:ExprD) (h3:x.op≠3) (h24:x.op≠24) (h11:x.op≠11) (h25:x.op≠25):ConR (stepC g) x:=by
 intro w B N cs hN hB hx
 obtain ⟨aa,fa,ac,fc,vs,hh⟩:=hx.has
 have c0:cs[0]?=some (.int .i64 x.op):=hh.op
 have H0:=Hd (belowBox w (.cells cs.toArray 34))
 have HG:=Hd (stepC_no (g:=g) h3 h24 h11 h25)
 clear hx hh
 generalize x.op=o at *
 have e3:(o==3)=false:=by simpa using h3
 have e24:(o==24)=false:=by simpa using h24
 have e11:(o==11)=false:=by simpa using h11
 have e25:(o==25)=false:=by simpa using h25
 go_enter Tryz.func26,Tryz.ntmps26
 go_wp2_with fail
 go_ret
 exact ⟨by rw [HG.out];rfl,H0.out⟩
set_option maxRecDepth 100000 in
set_option maxHeartbeats 3200000 in
theorem conr_11 (g:ExprD→Bool) (x:ExprD) (h:x.op=11) (hk:∀ k (h:k<x.args.length),ConR g x.args[k]):ConR (stepC g) x:=by
 intro w B N cs hN hB hx
 obtain ⟨aa,fa,ac,fc,vs,hh⟩:=hx.has
 have c0:cs[0]?=some (.int .i64 11):=by rw [hh.op,h]
 have c15:=hh.args
 have hal:x.args.length≤N:=hh.own.2.2.1
 have HAS:=Hd hh.atArgs
 have HK:=Hd hk
 have H0:=Hd (belowBox w (.cells cs.toArray 34))
 have R0:=Hd (box_at w cs 34)
 have hs0:w.heap.size<(w.alloc (.cells cs.toArray 34)).heap.size:=by rw [World.size_alloc];omega
 have HG:=Hd (show stepC g x=(x.args.drop 0).all g by unfold stepC;rw [h];simp)
 have e15:=R0.out.get0 c15
 clear hx hh h hk
 go_enter Tryz.func26,Tryz.ntmps26
 go_wp2_with fail
 go_simp
 go_loopw [3] (fun i wr=>∃ (k:Nat),k≤x.args.length∧i=.int .i64 k∧Hid (stepC g x=(x.args.drop k).all g)∧Hid (CellsAt wr w.heap.size 0 cs)∧Hid (Below w.heap.size w wr)∧w.heap.size<wr.heap.size)
  (fun i _=>x.args.length-(intOf i).toNat)
 case atStart=>exact ⟨0,by omega,rfl,HG,R0,H0,hs0⟩
 case round =>
  clear HG R0 H0 hs0 e15
  obtain ⟨w1,rfl⟩:∃ w1,w1=wr:=⟨wr,rfl⟩
  obtain ⟨k,hkl,rfl,HG,R0,H0,hs⟩:=hrel
  have e15:=R0.out.get0 c15
  by_cases hlt:k<x.args.length
  ·obtain ⟨b,o,rfl,hb,hget⟩:=HAS.out.get (by intro h;simp [h] at hlt)
   obtain ⟨cs1,h1,h2⟩:=hget k hlt
   have HR:=Hd (h1.below (H0.out.mono hB) hb).range
   have HX:=Hd (h2.below (H0.out.mono hB))
   have hl1:=Hd (show (Tryz.prog.info? 34).map (·.size)=some cs1.length by rw [h2.len];exact sizeE)
   have HST:=Hd (show (x.args.drop k).all g=(g x.args[k]&&(x.args.drop (k+1)).all g) by rw [List.drop_eq_getElem_cons hlt,List.all_cons])
   clear h1 h2 hget
   go_wp2_with (refine wpList_load_mid rfl 34 _ rfl b (o+k * 17) rfl cs1 _ HR.out Tryz.underlying34 rfl hl1.out ?_)
   refine (HK.out k hlt _ B N cs1 hN (Nat.le_trans hB H0.out.size) HX.out).mono ?_
   rintro e w2 ⟨rfl,hb2⟩
   have H2:=Hd (belowThen H0.out hb2)
   have R2:=Hd (R0.out.then hb2 hs)
   have hs2:w.heap.size<w2.heap.size:=Nat.lt_of_lt_of_le hs hb2.size
   clear hb2
   obtain ⟨v,hv⟩:∃ v,g x.args[k]=v:=⟨_,rfl⟩
   have HV:=Hd hv
   rw [hv]
   clear hv
   cases v
   ·go_wp2_with fail
    go_ret
    exact ⟨by rw [HG.out,HST.out,HV.out];rfl,H2.out⟩
   ·go_wp2_with fail
    go_roundw
    case rel=>exact ⟨k+1,by omega,by go_num,Hd (by rw [HG.out,HST.out,HV.out];rfl),R2,H2,hs2⟩
    case measure=>simp [intOf];omega
  ·obtain rfl:k=x.args.length:=by omega
   go_wp2_with fail
   go_ret
   exact ⟨by rw [HG.out,List.drop_length];rfl,H0.out⟩
set_option maxRecDepth 100000 in
set_option maxHeartbeats 3200000 in
theorem conr_25 (g:ExprD→Bool) (x:ExprD) (h:x.op=25) (hk:∀ k (h:k<x.args.length),ConR g x.args[k]):ConR (stepC g) x:=by
 intro w B N cs hN hB hx
 obtain ⟨aa,fa,ac,fc,vs,hh⟩:=hx.has
 have c0:cs[0]?=some (.int .i64 25):=by rw [hh.op,h]
 have c15:=hh.args
 have hal:x.args.length≤N:=hh.own.2.2.1
 have HAS:=Hd hh.atArgs
 have HK:=Hd hk
 have H0:=Hd (belowBox w (.cells cs.toArray 34))
 have R0:=Hd (box_at w cs 34)
 have hs0:w.heap.size<(w.alloc (.cells cs.toArray 34)).heap.size:=by rw [World.size_alloc];omega
 have HG:=Hd (show stepC g x=(x.args.drop 0).all g by unfold stepC;rw [h];simp)
 have e15:=R0.out.get0 c15
 clear hx hh h hk
 go_enter Tryz.func26,Tryz.ntmps26
 go_wp2_with fail
 go_simp
 go_loopw [3] (fun i wr=>∃ (k:Nat),k≤x.args.length∧i=.int .i64 k∧Hid (stepC g x=(x.args.drop k).all g)∧Hid (CellsAt wr w.heap.size 0 cs)∧Hid (Below w.heap.size w wr)∧w.heap.size<wr.heap.size)
  (fun i _=>x.args.length-(intOf i).toNat)
 case atStart=>exact ⟨0,by omega,rfl,HG,R0,H0,hs0⟩
 case round =>
  clear HG R0 H0 hs0 e15
  obtain ⟨w1,rfl⟩:∃ w1,w1=wr:=⟨wr,rfl⟩
  obtain ⟨k,hkl,rfl,HG,R0,H0,hs⟩:=hrel
  have e15:=R0.out.get0 c15
  by_cases hlt:k<x.args.length
  ·obtain ⟨b,o,rfl,hb,hget⟩:=HAS.out.get (by intro h;simp [h] at hlt)
   obtain ⟨cs1,h1,h2⟩:=hget k hlt
   have HR:=Hd (h1.below (H0.out.mono hB) hb).range
   have HX:=Hd (h2.below (H0.out.mono hB))
   have hl1:=Hd (show (Tryz.prog.info? 34).map (·.size)=some cs1.length by rw [h2.len];exact sizeE)
   have HST:=Hd (show (x.args.drop k).all g=(g x.args[k]&&(x.args.drop (k+1)).all g) by rw [List.drop_eq_getElem_cons hlt,List.all_cons])
   clear h1 h2 hget
   go_wp2_with (refine wpList_load_mid rfl 34 _ rfl b (o+k * 17) rfl cs1 _ HR.out Tryz.underlying34 rfl hl1.out ?_)
   refine (HK.out k hlt _ B N cs1 hN (Nat.le_trans hB H0.out.size) HX.out).mono ?_
   rintro e w2 ⟨rfl,hb2⟩
   have H2:=Hd (belowThen H0.out hb2)
   have R2:=Hd (R0.out.then hb2 hs)
   have hs2:w.heap.size<w2.heap.size:=Nat.lt_of_lt_of_le hs hb2.size
   clear hb2
   obtain ⟨v,hv⟩:∃ v,g x.args[k]=v:=⟨_,rfl⟩
   have HV:=Hd hv
   rw [hv]
   clear hv
   cases v
   ·go_wp2_with fail
    go_ret
    exact ⟨by rw [HG.out,HST.out,HV.out];rfl,H2.out⟩
   ·go_wp2_with fail
    go_roundw
    case rel=>exact ⟨k+1,by omega,by go_num,Hd (by rw [HG.out,HST.out,HV.out];rfl),R2,H2,hs2⟩
    case measure=>simp [intOf];omega
  ·obtain rfl:k=x.args.length:=by omega
   go_wp2_with fail
   go_ret
   exact ⟨by rw [HG.out,List.drop_length];rfl,H0.out⟩
set_option maxRecDepth 100000 in
set_option maxHeartbeats 3200000 in
theorem conr_24 (g:ExprD→Bool) (x:ExprD) (h:x.op=24) (hl:0<x.args.length) (hk:x.args[0].op≠30→ConR g x.args[0]):ConR (stepC g) x:=by
 intro w B N cs hN hB hx
 obtain ⟨aa,fa,ac,fc,vs,hh⟩:=hx.has
 have c0:cs[0]?=some (.int .i64 24):=by rw [hh.op,h]
 have c15:=hh.args
 have hal:x.args.length≤N:=hh.own.2.2.1
 have HK:=Hd hk
 have H0:=Hd (belowBox w (.cells cs.toArray 34))
 have HG:=Hd (show stepC g x=(decide (x.args[0].op=30) || g x.args[0]) by unfold stepC;rw [h,argN_get hl];rfl)
 obtain ⟨b,o,rfl,hb,hget⟩:=hh.atArgs.get (by intro h;simp [h] at hl)
 obtain ⟨cs1,h1,h2⟩:=hget 0 hl
 rw [Nat.zero_mul,Nat.add_zero] at h1
 obtain ⟨_,_,_,_,_,hh1⟩:=h2.has
 have H1:=Hd (h1.below (H0.out.mono hB) hb)
 have d0:=H1.out.get0' hh1.op
 have HX:=Hd (h2.below (H0.out.mono hB))
 have hl1:=Hd (show (Tryz.prog.info? 34).map (·.size)=some cs1.length by rw [h2.len];exact sizeE)
 clear hx hh h hk hget h1 h2 hh1
 obtain ⟨q,hq⟩:∃ q,x.args[0].op=q:=⟨_,rfl⟩
 rw [hq] at d0 HG HK
 clear hq
 by_cases hz:q=30
 ·subst hz
  go_enter Tryz.func26,Tryz.ntmps26
  go_wp2_with fail
  go_ret
  exact ⟨by rw [HG.out];rfl,H0.out⟩
 ·have e30:(q==30)=false:=by simpa using hz
  have HD:=Hd (show decide (q=30)=false by simpa using hz)
  go_enter Tryz.func26,Tryz.ntmps26
  go_wp2_with (refine wpList_load_mid_f rfl 34 _ rfl b o rfl cs1 _ H1.out.range Tryz.underlying34 rfl hl1.out ?_)
  refine (HK.out hz _ B N cs1 hN (Nat.le_trans hB H0.out.size) HX.out).mono ?_
  rintro e w2 ⟨rfl,hb2⟩
  have H2:=Hd (belowThen H0.out hb2)
  clear hb2
  go_wp2_with fail
  go_ret
  exact ⟨by rw [HG.out,HD.out];rfl,H2.out⟩
theorem conr_30 (m:Nat) {x:ExprD} (h:x.op=30):ConR (conS m) x:=by
 cases m with
 | zero=>exact conr_no _ x (by omega) (by omega) (by omega) (by omega)
 | succ m=>exact conr_no _ x (by omega) (by omega) (by omega) (by omega)
theorem conr_step (g:ExprD→Bool) (x:ExprD) (h1:wf1 x) (hk:∀ k (h:k<x.args.length),ConR g x.args[k]):ConR (stepC g) x:=by
 by_cases h3:x.op=3
 ·exact conr_3 g x h3
 by_cases h24:x.op=24
 ·have hl:=wf_num h1 (n:=1) (by rw [h24];decide)
  exact conr_24 g x h24 (by omega) (fun _=>hk 0 (by omega))
 by_cases h11:x.op=11
 ·exact conr_11 g x h11 hk
 by_cases h25:x.op=25
 ·exact conr_25 g x h25 hk
 exact conr_no g x h3 h24 h11 h25
theorem conr_all:∀ (m:Nat) (x:ExprD),wfE m x→ConR (conS m) x:=by
 intro m
 induction m with
 | zero =>
   intro x h
   exact conr_step _ x (wfE_1 h) (fun k hk=>by rw [h.2.1] at hk;simp at hk)
 | succ m ih =>
   intro x h
   refine conr_step _ x (wfE_1 h) (fun k hk=>?_)
   rcases h.2.1 _ (List.getElem_mem hk) with h1 | h1
   ·exact conr_30 m h1
   ·exact ih _ h1
end Go.Proofs.YticpebgjbfanpaaGreatDoor

/- qanalyze.constant (with absent,zero,empty): of an accepted expression it says what conS says. -/
namespace Go.Proofs.YticpebgjbfanpaaGreatDoor
open Go.RowKit
set_option maxRecDepth 100000 in
set_option maxHeartbeats 1600000 in
theorem empty43 (v:ValD) (hz:zeroB v=true) (w:World) (B N:Nat) (cs:List Value) (hv:ValD.At w B N v cs):Calls Tryz.prog 108 #[.agg cs.toArray] w (BolR true w):=by
 obtain ⟨ya,la,va,yc,lc,vc,hh⟩:=hv.has
 obtain ⟨h0,h1,h2,h3,h4,h5,h6,h7⟩:=of_decide_eq_true hz
 have c0:cs[0]?=some (.int .i64 0):=by rw [hh.kind,h0]
 have c1:cs[1]?=some (.bool false):=by rw [hh.bool,h1]
 have c2:=hh.neg
 have c3:=hh.digits
 have c4:=hh.exp
 have c5:=hh.tkind
 have c6:=hh.day
 have c7:=hh.nano
 have c8:=hh.offset
 have c9:=hh.text
 have c10:cs[10]?=some (.slice ya 0 yc):=by rw [hh.bytes,h5]
 have c11:cs[11]?=some (.slice la 0 lc):=by rw [hh.list,h6]
 have c12:cs[12]?=some (.slice va 0 vc):=by rw [hh.fields,h7]
 have E1:=eqDEC0 v.num
 have E2:=eqTIME0 v.time
 rw [h2] at E1
 rw [h3] at E2
 have G1:=guardDEC
 have G2:=guardTIME
 have ht:v.text.toList=[]:=toList_nil h4
 clear hv hh h0 h1 h2 h3 h4 h5 h6 h7 hz
 go_enter Tryz.func108,Tryz.ntmps108
 go_wp2
 all_goals
  go_ret
  exact ⟨rfl,Below.box _ _⟩
set_option maxRecDepth 100000 in
set_option maxHeartbeats 1600000 in
theorem zero43 (x:ExprD) (w:World) (B N:Nat) (cs:List Value) (h0:x.op=0) (h1:x.name.size=0) (hz:zeroB x.val=true) (h3:x.args.length=0) (h4:x.funcs.length=0) (hB:B≤w.heap.size) (he:ExprD.At w B N x cs):Calls Tryz.prog 72 #[.agg cs.toArray] w (BolR true w):=by
 obtain ⟨aa,fa,ac,fc,vs,hh⟩:=he.has
 have H0:=Hd (show Below w.heap.size w (w.alloc (.cells cs.toArray 34)) from belowBox w _)
 have hvr:=Hd (show (w.alloc (.cells cs.toArray 34)).rangeAt w.heap.size (0+2) vs from (hh.valRange (box_at w cs 34)).range)
 have HV:=Hd (show ValD.At (w.alloc (.cells cs.toArray 34)) B N x.val vs from hh.atVal.below (H0.out.mono hB))
 have hl:=Hd (show (Tryz.prog.info? 31).map (·.size)=some vs.length by rw [hh.atVal.len];exact sizeV)
 have hs0:=Hd (show w.heap.size<(w.alloc (.cells cs.toArray 34)).heap.size by rw [World.size_alloc];omega)
 have HX:=Hd (box_at w cs 34)
 have HZ:=Hd hz
 have c0:cs[0]?=some (.int .i64 0):=by rw [hh.op,h0]
 have c1:=hh.name
 have c15:cs[15]?=some (.slice aa 0 ac):=by rw [hh.args,h3]
 have c16:cs[16]?=some (.slice fa 0 fc):=by rw [hh.funcs,h4]
 have ht:x.name.toList=[]:=toList_nil h1
 clear hh he h0 h1 hz h3 h4
 go_enter Tryz.func72,Tryz.ntmps72
 go_wp2_with (refine wpList_load_mid_e rfl 31 _ rfl w.heap.size (0+2) rfl vs _ hvr.out Tryz.underlying31 rfl hl.out ?_)
 refine (empty43 x.val HZ.out _ B N vs HV.out).mono ?_
 rintro e w1 ⟨rfl,hb1⟩
 have H1:=Hd (belowThen H0.out hb1)
 have d15:=(HX.out.then hb1 hs0.out).get0 c15
 have d16:=(HX.out.then hb1 hs0.out).get0 c16
 clear hb1
 go_wp2_with fail
 go_ret
 exact ⟨rfl,H1.out⟩
theorem ExprD.At.op0 {w:World} {B N:Nat} {x:ExprD} {cs:List Value} (h:ExprD.At w B N x cs):ExprD.At w B N (.mk 0 x.name x.val x.args x.funcs) (cs.set 0 (.int .i64 0)):=by
 obtain ⟨ya,la,va,aa,fa,yc,lc,vc,ac,fc,hcs,hown,hvown,hy,hl,hv,has,hfs⟩:=h.row
 rw [hcs]
 exact ExprD.At.mk (e:=.mk 0 x.name x.val x.args x.funcs) ⟨show I64 0 by unfold I64;omega,hown.2⟩ hvown hy hl hv has hfs
set_option maxRecDepth 100000 in
set_option maxHeartbeats 1600000 in
theorem absent43_yes (x:ExprD) (w:World) (B N:Nat) (cs:List Value) (hx:absB x=true) (hB:B≤w.heap.size) (he:ExprD.At w B N x cs):Calls Tryz.prog 45 #[.agg cs.toArray] w (BolR true w):=by
 obtain ⟨aa,fa,ac,fc,vs,hh⟩:=he.has
 obtain ⟨h0,h1,hz,h3,h4⟩:=of_decide_eq_true hx
 have c0:cs[0]?=some (.int .i64 30):=by rw [hh.op,h0]
 have hlen:=he.len
 have HP:=Hd he.op0
 obtain ⟨w1,hw1⟩:∃ w1,w1=w.alloc (.cells (cs.set 0 (.int .i64 0)).toArray 34):=⟨_,rfl⟩
 have R1:=Hd (show RowE w1 w.heap.size (cs.set 0 (.int .i64 0)) from by rw [hw1];exact heap_alloc_new w _)
 have H1:=Hd (show Below w.heap.size w w1 by rw [hw1];exact belowBox w _)
 have hl:=Hd (show (Tryz.prog.info? 34).map (·.size)=some (cs.set 0 (.int .i64 0)).length by rw [List.length_set,hlen];exact sizeE)
 have HC:=Hd (And.intro h1 (And.intro hz (And.intro h3 h4)))
 have HW:=Hd hw1
 clear hh he h0 h1 hz h3 h4 hx hw1 hlen
 go_enter Tryz.func45,Tryz.ntmps45
 go_wp2_with (refine wpList_load_mid_e rfl 34 _ rfl w.heap.size 0 rfl (cs.set 0 (.int .i64 0)) _ (by rw [← HW.out];exact R1.out.range) Tryz.underlying34 rfl hl.out ?_)
 rw [← HW.out]
 refine (zero43 (.mk 0 x.name x.val x.args x.funcs) _ B N _ rfl HC.out.1 HC.out.2.1 HC.out.2.2.1 HC.out.2.2.2 (Nat.le_trans hB H1.out.size) (HP.out.below (H1.out.mono hB))).mono ?_
 rintro e w2 ⟨rfl,hb2⟩
 have H2:=Hd (belowThen H1.out hb2)
 clear hb2
 go_wp2_with fail
 go_ret
 exact ⟨rfl,H2.out⟩
set_option maxRecDepth 100000 in
set_option maxHeartbeats 1600000 in
theorem absent43_no (x:ExprD) (w:World) (B N:Nat) (cs:List Value) (h:x.op≠30) (he:ExprD.At w B N x cs):Calls Tryz.prog 45 #[.agg cs.toArray] w (BolR false w):=by
 obtain ⟨aa,fa,ac,fc,vs,hh⟩:=he.has
 have c0:=hh.op
 have H0:=Hd (belowBox w (.cells (cs.set 0 (.int .i64 0)).toArray 34))
 clear hh he
 generalize x.op=o at *
 have e30:(o==30)=false:=by simpa using h
 go_enter Tryz.func45,Tryz.ntmps45
 go_wp2_with fail
 go_ret
 exact ⟨rfl,H0.out⟩
def ConP (D:Int) (g:ExprD→Bool) (x:ExprD):Prop:=∀ (w:World) (B N:Nat) (cs:List Value),N≤1048576→B≤w.heap.size→ExprD.At w B N x cs→Calls Tryz.prog 22 #[.agg cs.toArray,.int .i64 D] w (BoolB (g x) w)
set_option maxRecDepth 100000 in
set_option maxHeartbeats 1600000 in
theorem conp_3 (D:Int) (hD0:1≤D) (hD:D≤48) (g:ExprD→Bool) (x:ExprD) (h:x.op=3):ConP D (stepC g) x:=by
 intro w B N cs hN hB hx
 obtain ⟨aa,fa,ac,fc,vs,hh⟩:=hx.has
 have c0:cs[0]?=some (.int .i64 3):=by rw [hh.op,h]
 have H0:=Hd (belowBox w (.cells cs.toArray 34))
 have HG:=Hd (stepC_3 (g:=g) h)
 clear hx hh h
 go_enter Tryz.func22,Tryz.ntmps22
 go_wp2_with fail
 go_ret
 exact ⟨by rw [HG.out];rfl,H0.out⟩
set_option maxRecDepth 100000 in
set_option maxHeartbeats 1600000 in
theorem conp_no (D:Int) (g:ExprD→Bool) (x:ExprD) (h3:x.op≠3) (h24:x.op≠24) (h11:x.op≠11) (h25:x.op≠25):ConP D (stepC g) x:=by
 intro w B N cs hN hB hx
 obtain ⟨aa,fa,ac,fc,vs,hh⟩:=hx.has
 have c0:cs[0]?=some (.int .i64 x.op):=hh.op
 have H0:=Hd (belowBox w (.cells cs.toArray 34))
 have HG:=Hd (stepC_no (g:=g) h3 h24 h11 h25)
 clear hx hh
 generalize x.op=o at *
 have e3:(o==3)=false:=by simpa using h3
 have e24:(o==24)=false:=by simpa using h24
 have e11:(o==11)=false:=by simpa using h11
 have e25:(o==25)=false:=by simpa using h25
 by_cases hD:D≤48
 ·go_enter Tryz.func22,Tryz.ntmps22
  go_wp2_with fail
  go_ret
  exact ⟨by rw [HG.out];rfl,H0.out⟩
 ·have hD':48<D:=by omega
  clear hD
  go_enter Tryz.func22,Tryz.ntmps22
  go_wp2_with fail
  go_ret
  exact ⟨by rw [HG.out];rfl,H0.out⟩
set_option maxRecDepth 100000 in
set_option maxHeartbeats 3200000 in
theorem conp_11 (D:Int) (hD0:1≤D) (hD:D≤48) (g:ExprD→Bool) (x:ExprD) (h:x.op=11) (h1':x.args.length=1) (hk:∀ k (h:k<x.args.length),ConP (D+1) g x.args[k]):ConP D (stepC g) x:=by
 intro w B N cs hN hB hx
 obtain ⟨aa,fa,ac,fc,vs,hh⟩:=hx.has
 have hl:0<x.args.length:=by omega
 have c0:cs[0]?=some (.int .i64 11):=by rw [hh.op,h]
 have c15:cs[15]?=some (.slice aa 1 ac):=by rw [hh.args,h1']
 have HK:=Hd (hk 0 hl)
 have H0:=Hd (belowBox w (.cells cs.toArray 34))
 have HG:=Hd (show stepC g x=g x.args[0] by
  obtain ⟨y,hy⟩:∃ y,x.args=[y]:=List.length_eq_one_iff.1 h1'
  unfold stepC
  rw [h]
  simp [hy])
 obtain ⟨b,o,rfl,hb,hget⟩:=hh.atArgs.get (by intro h;simp [h] at hl)
 obtain ⟨cs1,h1,h2⟩:=hget 0 hl
 rw [Nat.zero_mul,Nat.add_zero] at h1
 have H1:=Hd (h1.below (H0.out.mono hB) hb)
 have HX:=Hd (h2.below (H0.out.mono hB))
 have hl1:=Hd (show (Tryz.prog.info? 34).map (·.size)=some cs1.length by rw [h2.len];exact sizeE)
 clear hx hh h hk hget h1 h2 h1'
 obtain ⟨v,hv⟩:∃ v,g x.args[0]=v:=⟨_,rfl⟩
 have HV:=Hd hv
 clear hv
 go_enter Tryz.func22,Tryz.ntmps22
 go_wp2_with (refine wpList_load_mid_f rfl 34 _ rfl b o rfl cs1 _ H1.out.range Tryz.underlying34 rfl hl1.out ?_)
 refine (HK.out _ B N cs1 hN (Nat.le_trans hB H0.out.size) HX.out).mono ?_
 rintro e w2 ⟨rfl,hb2⟩
 have H2:=Hd (belowThen H0.out hb2)
 clear hb2
 rw [HV.out]
 cases v
 all_goals
  go_wp2_with fail
  go_ret
  exact ⟨by rw [HG.out,HV.out];rfl,H2.out⟩
set_option maxRecDepth 100000 in
set_option maxHeartbeats 3200000 in
theorem conp_24 (D:Int) (hD0:1≤D) (hD:D≤48) (g:ExprD→Bool) (x:ExprD) (h:x.op=24) (h1':x.args.length=1) (ha:∀ (h:0<x.args.length),x.args[0].op=30→absB x.args[0]=true) (hk:∀ k (h:k<x.args.length),ConP (D+1) g x.args[k]):ConP D (stepC g) x:=by
 intro w B N cs hN hB hx
 obtain ⟨aa,fa,ac,fc,vs,hh⟩:=hx.has
 have hl:0<x.args.length:=by omega
 have c0:cs[0]?=some (.int .i64 24):=by rw [hh.op,h]
 have c15:cs[15]?=some (.slice aa 1 ac):=by rw [hh.args,h1']
 have HK:=Hd (hk 0 hl)
 have HA:=Hd (ha hl)
 have H0:=Hd (belowBox w (.cells cs.toArray 34))
 have HG:=Hd (show stepC g x=(decide (x.args[0].op=30) || g x.args[0]) by unfold stepC;rw [h,argN_get hl];rfl)
 obtain ⟨b,o,rfl,hb,hget⟩:=hh.atArgs.get (by intro h;simp [h] at hl)
 obtain ⟨cs1,h1,h2⟩:=hget 0 hl
 rw [Nat.zero_mul,Nat.add_zero] at h1
 have H1:=Hd (h1.below (H0.out.mono hB) hb)
 have HX:=Hd (h2.below (H0.out.mono hB))
 have HR0:=Hd (box_at w cs 34)
 have hs0:=Hd (show w.heap.size<(w.alloc (.cells cs.toArray 34)).heap.size by rw [World.size_alloc];omega)
 have hl1:=Hd (show (Tryz.prog.info? 34).map (·.size)=some cs1.length by rw [h2.len];exact sizeE)
 have Hb:=Hd hb
 clear hx hh h hk hget h1 h2 h1' ha hb
 obtain ⟨v,hv⟩:∃ v,g x.args[0]=v:=⟨_,rfl⟩
 have HV:=Hd hv
 clear hv
 go_enter Tryz.func22,Tryz.ntmps22
 go_wp2_with (refine wpList_load_mid_f rfl 34 _ rfl b o rfl cs1 _ H1.out.range Tryz.underlying34 rfl hl1.out ?_)
 by_cases hz:x.args[0].op=30
 ·refine (absent43_yes _ _ B N cs1 (HA.out hz) (Nat.le_trans hB H0.out.size) HX.out).mono ?_
  rintro e w2 ⟨rfl,hb2⟩
  have H2:=Hd (belowThen H0.out hb2)
  have HD:=Hd (show decide (x.args[0].op=30)=true by simpa using hz)
  clear hb2 hz
  go_wp2_with fail
  go_ret
  exact ⟨by rw [HG.out,HD.out];rfl,H2.out⟩
 ·refine (absent43_no _ _ B N cs1 hz HX.out).mono ?_
  rintro e w2 ⟨rfl,hb2⟩
  have H2:=Hd (belowThen H0.out hb2)
  have HD:=Hd (show decide (x.args[0].op=30)=false by simpa using hz)
  have H12:=Hd (H1.out.below (hb2.mono (Nat.le_trans hB H0.out.size)) Hb.out)
  have HX2:=Hd (HX.out.below (hb2.mono (Nat.le_trans hB H0.out.size)))
  have d15:=(HR0.out.then hb2 hs0.out).get0 c15
  clear hb2 hz
  go_wp2_with (refine wpList_load_mid_f rfl 34 _ rfl b o rfl cs1 _ H12.out.range Tryz.underlying34 rfl hl1.out ?_)
  refine (HK.out _ B N cs1 hN (Nat.le_trans hB H2.out.size) HX2.out).mono ?_
  rintro e w3 ⟨rfl,hb3⟩
  have H3:=Hd (belowThen H2.out hb3)
  clear hb3
  rw [HV.out]
  cases v
  all_goals
   go_wp2_with fail
   go_ret
   exact ⟨by rw [HG.out,HV.out,HD.out];rfl,H3.out⟩
set_option maxRecDepth 100000 in
set_option maxHeartbeats 3200000 in
theorem conp_25 (D:Int) (hD0:1≤D) (hD:D≤48) (g:ExprD→Bool) (x:ExprD) (h:x.op=25) (hk:∀ k (h:k<x.args.length),ConP (D+1) g x.args[k]):ConP D (stepC g) x:=by
 intro w B N cs hN hB hx
 obtain ⟨aa,fa,ac,fc,vs,hh⟩:=hx.has
 have c0:cs[0]?=some (.int .i64 25):=by rw [hh.op,h]
 have c15:=hh.args
 have hal:x.args.length≤N:=hh.own.2.2.1
 have HAS:=Hd hh.atArgs
 have HK:=Hd hk
 have H0:=Hd (belowBox w (.cells cs.toArray 34))
 have hs0:w.heap.size<(w.alloc (.cells cs.toArray 34)).heap.size:=by rw [World.size_alloc];omega
 have HG:=Hd (show stepC g x=(x.args.drop 0).all g by unfold stepC;rw [h];simp)
 clear hx hh h hk
 go_enter Tryz.func22,Tryz.ntmps22
 go_wp2_with fail
 go_simp
 go_loopw [55] (fun i wr=>∃ (k:Nat),k≤x.args.length∧i=.int .i64 k∧Hid (stepC g x=(x.args.drop k).all g)∧Hid (Below w.heap.size w wr)∧w.heap.size<wr.heap.size)
  (fun i _=>x.args.length-(intOf i).toNat)
 case atStart=>exact ⟨0,by omega,rfl,HG,H0,hs0⟩
 case round =>
  clear HG H0 hs0
  obtain ⟨w1,rfl⟩:∃ w1,w1=wr:=⟨wr,rfl⟩
  obtain ⟨k,hkl,rfl,HG,H0,hs⟩:=hrel
  by_cases hlt:k<x.args.length
  ·obtain ⟨b,o,rfl,hb,hget⟩:=HAS.out.get (by intro h;simp [h] at hlt)
   obtain ⟨cs1,h1,h2⟩:=hget k hlt
   have HR:=Hd (h1.below (H0.out.mono hB) hb).range
   have HX:=Hd ((h2.below (H0.out.mono hB)).below ((belowBox w1 (.cells cs1.toArray 34)).mono (Nat.le_trans hB H0.out.size)))
   have HBX:=Hd (box_at w1 cs1 34).range
   have H1:=Hd (belowThen H0.out (belowBox w1 (.cells cs1.toArray 34)))
   have hl1:=Hd (show (Tryz.prog.info? 34).map (·.size)=some cs1.length by rw [h2.len];exact sizeE)
   have hl2:=Hd (show (Tryz.prog.info? 34).map (·.size)=some cs1.toArray.size by rw [List.size_toArray,h2.len];exact sizeE)
   have hl3:=Hd (show zeroEA.size=cs1.toArray.size by show 17=_;rw [List.size_toArray,h2.len])
   have hone:=Hd (show cs1.toArray.all (·.oneCell')=true from Go.all_oneCell_toArray h2.one)
   have HST:=Hd (show (x.args.drop k).all g=(g x.args[k]&&(x.args.drop (k+1)).all g) by rw [List.drop_eq_getElem_cons hlt,List.all_cons])
   clear h1 h2 hget
   go_wp2_with (first
    | (refine wpList_load_mid rfl 34 _ rfl b (o+k * 17) rfl cs1 _ HR.out Tryz.underlying34 rfl hl1.out ?_)
    | (refine wpList_store_new rfl 34 _ _ rfl zeroEA cs1.toArray rfl rfl hl2.out hl3.out hone.out ?_)
    | (refine wpList_load_mid rfl 34 _ rfl w1.heap.size 0 rfl cs1 _ HBX.out Tryz.underlying34 rfl hl1.out ?_))
   refine (HK.out k hlt _ B N cs1 hN (Nat.le_trans hB H1.out.size) HX.out).mono ?_
   rintro e w2 ⟨rfl,hb2⟩
   have H2:=Hd (belowThen H1.out hb2)
   have hs2:w.heap.size<w2.heap.size:=by
    have h3:=hb2.size
    rw [World.size_alloc] at h3
    omega
   clear hb2
   obtain ⟨v,hv⟩:∃ v,g x.args[k]=v:=⟨_,rfl⟩
   have HV:=Hd hv
   rw [hv]
   clear hv
   cases v
   ·go_wp2_with fail
    go_ret
    exact ⟨by rw [HG.out,HST.out,HV.out];rfl,H2.out⟩
   ·go_wp2_with fail
    go_roundw
    case rel=>exact ⟨k+1,by omega,by go_num,Hd (by rw [HG.out,HST.out,HV.out];rfl),H2,hs2⟩
    case measure=>simp [intOf];omega
  ·obtain rfl:k=x.args.length:=by omega
   go_wp2_with fail
   go_ret
   exact ⟨by rw [HG.out,List.drop_length];rfl,H0.out⟩
theorem conp_30 (D:Int) (m:Nat) {x:ExprD} (h:x.op=30):ConP D (conS m) x:=by
 cases m with
 | zero=>exact conp_no D _ x (by omega) (by omega) (by omega) (by omega)
 | succ m=>exact conp_no D _ x (by omega) (by omega) (by omega) (by omega)
theorem conp_step (D:Int) (hD0:1≤D) (hD:D≤48) (g:ExprD→Bool) (x:ExprD) (h1:wf1 x) (hk:∀ k (h:k<x.args.length),ConP (D+1) g x.args[k]):ConP D (stepC g) x:=by
 by_cases h3:x.op=3
 ·exact conp_3 D hD0 hD g x h3
 by_cases h24:x.op=24
 ·have hl:=wf_num h1 (n:=1) (by rw [h24];decide)
  exact conp_24 D hD0 hD g x h24 hl (fun h ho=>(wf_abs h1 h ho).2) hk
 by_cases h11:x.op=11
 ·have hl:=wf_num h1 (n:=1) (by rw [h11];decide)
  exact conp_11 D hD0 hD g x h11 hl hk
 by_cases h25:x.op=25
 ·exact conp_25 D hD0 hD g x h25 hk
 exact conp_no D g x h3 h24 h11 h25
theorem conp_all:∀ (m:Nat) (D:Int) (x:ExprD),1≤D→D+m≤48→wfE m x→ConP D (conS m) x:=by
 intro m
 induction m with
 | zero =>
   intro D x hD0 hD h
   exact conp_step D hD0 (by omega) _ x (wfE_1 h) (fun k hk=>by rw [h.2.1] at hk;simp at hk)
 | succ m ih =>
   intro D x hD0 hD h
   refine conp_step D hD0 (by omega) _ x (wfE_1 h) (fun k hk=>?_)
   rcases h.2.1 _ (List.getElem_mem hk) with h1 | h1
   ·exact conp_30 (D+1) m h1
   ·exact ih (D+1) _ (by omega) (by omega) h1
end Go.Proofs.YticpebgjbfanpaaGreatDoor
