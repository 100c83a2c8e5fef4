/- datakitref43.steps: of an accepted expression it gives what selS says. -/
import Derived.Test.YticpebgjbfanpaaGreatDoorGA
import Derived.Test.YticpebgjbfanpaaGreatDoorSel43p
namespace Go.Proofs.YticpebgjbfanpaaGreatDoor
open Go.RowKit
def toJ (d:DecD):Int×Int:=if d.exp<0 then (0,15) else toI d
def ToJR (d:DecD) (w:World) (e:Ending) (w':World):Prop:=e=.returned (.tuple #[.int .i64 (toJ d).1,.int .i64 (toJ d).2])∧Below w.heap.size w w'
set_option maxRecDepth 100000 in
set_option maxHeartbeats 1600000 in
theorem toj_ref (d:DecD) (w:World) (hv:VDec d):Calls Tryz.prog 50 #[.agg #[.bool d.neg,.string d.digits,.int .i64 d.exp]] w (ToJR d w):=by
 by_cases h:d.exp<0
 ·have HZ:=Hd (show toJ d=(0,15) by unfold toJ;rw [if_pos h])
  clear hv
  go_enter Tryz.func50,Tryz.ntmps50
  go_wp2_with fail
  go_ret2
  exact ⟨by rw [HZ.out];rfl,Below.box _ _⟩
 ·refine (toi_ref d w hv (by omega)).mono ?_
  rintro e w' ⟨rfl,hb⟩
  exact ⟨by unfold toJ;rw [if_neg h],hb⟩
theorem smlN_toJ (x:ExprD):smlN x=if x.op=3∧x.val.kind=2∧(toJ x.val.num).2=0∧(toJ x.val.num).1≤65536 then some (toJ x.val.num).1 else none:=by
 unfold smlN toJ
 by_cases h:x.val.num.exp<0
 ·rw [if_pos h,if_neg (fun g=>by omega),if_neg (fun g=>by simp at g)]
 ·rw [if_neg h]
  by_cases g:x.op=3∧x.val.kind=2∧(toI x.val.num).2=0∧(toI x.val.num).1≤65536
  ·rw [if_pos g,if_pos ⟨g.1,g.2.1,by omega,g.2.2.1,g.2.2.2⟩]
  ·rw [if_neg g,if_neg (fun q=>g ⟨q.1,q.2.1,q.2.2.2.1,q.2.2.2.2⟩)]
def StpX (M:Nat) (g:ExprD→Option (List SelD)) (x:ExprD):Prop:=∀ (w:World) (B N:Nat) (cs:List Value),N≤1048576→B≤w.heap.size→ExprD.At w B N x cs→Calls Tryz.prog 27 #[.agg cs.toArray] w (SelR (g x) M w)
set_option maxRecDepth 100000 in
set_option maxHeartbeats 1600000 in
theorem stp_1 (M:Nat) (g:ExprD→Option (List SelD)) (x:ExprD) (h:x.op=1):StpX M (stepS g) x:=by
 intro w B N cs hN hB hx
 obtain ⟨aa,fa,ac,fc,vs,hh⟩:=hx.has
 have c0:cs[0]?=some (.int .i64 1):=by rw [hh.op,h]
 have H0:=Hd (belowBox w (.cells cs.toArray 34))
 have HG:=Hd (stepS_1 (g:=g) h)
 clear hx hh h
 go_enter Tryz.func27,Tryz.ntmps27
 go_wp2_with fail
 go_ret2
 exact ⟨_,[],true,rfl,Hd (World.ownsRow_nil _ _ _ _),Nat.zero_le _,Hd (by rw [HG.out];rfl),H0.out⟩
set_option maxRecDepth 100000 in
set_option maxHeartbeats 1600000 in
theorem stp_no (M:Nat) (g:ExprD→Option (List SelD)) (x:ExprD) (h1:x.op≠1) (h5:x.op≠5) (h6:x.op≠6) (h8:x.op≠8):StpX M (stepS g) x:=by
 intro w B N cs hN hB hx
 obtain ⟨aa,fa,ac,fc,vs,hh⟩:=hx.has
 have c0:=hh.op
 have H0:=Hd (belowBox w (.cells cs.toArray 34))
 have HG:=Hd (stepS_no (g:=g) h1 h5 h6 h8)
 clear hx hh
 generalize stepS g x=q at *
 generalize x.op=o at *
 have e1:(o==1)=false:=by simpa using h1
 have e5:(o != 5)=true:=by simpa using h5
 have e6:(o != 6)=true:=by simpa using h6
 have e8:(o != 8)=true:=by simpa using h8
 go_enter Tryz.func27,Tryz.ntmps27
 go_wp2_with fail
 go_ret2
 exact ⟨_,[],false,rfl,Hd (World.ownsRow_nil _ _ _ _),Nat.zero_le _,Hd (by rw [HG.out];rfl),H0.out⟩
set_option maxRecDepth 100000 in
set_option maxHeartbeats 6400000 in
theorem stp_8 (M:Nat) (hM:M≤48) (g:ExprD→Option (List SelD)) (x:ExprD) (h:x.op=8) (hl:0<x.args.length) (hk:StpX M g x.args[0]):StpX (M+1) (stepS g) x:=by
 intro w B N cs hN hB hx
 obtain ⟨i0,hi,hz0,hz1,hz2⟩:=info_parts infoSEL
 have HI:=Hd hi
 have HZ0:=Hd hz0
 have HZ1:=Hd hz1
 have HZ2:=Hd hz2
 obtain ⟨aa,fa,ac,fc,vs,hh⟩:=hx.has
 have c0:cs[0]?=some (.int .i64 8):=by rw [hh.op,h]
 have c1:=hh.name
 have c15:=hh.args
 have hal:x.args.length≤N:=hh.own.2.2.1
 have HK:=Hd hk
 have HG:=Hd (stepS_bind (g:=g) (x:=x) (by omega) (by omega))
 have HQ:=Hd (selOf_8 h)
 obtain ⟨b,o,rfl,hb,hget⟩:=hh.atArgs.get (by intro h;simp [h] at hl)
 obtain ⟨cs1,h1,h2⟩:=hget 0 (by omega)
 rw [Nat.zero_mul,Nat.add_zero] at h1
 have hl1:=Hd (show (Tryz.prog.info? 34).map (·.size)=some cs1.length by rw [h2.len];exact sizeE)
 have R0:=Hd (RowT.new w 34 cs)
 have H0:=Hd (belowBox w (.cells cs.toArray 34))
 have HR:=Hd (h1.below (H0.out.mono hB) hb)
 have HX:=Hd (h2.below (H0.out.mono hB))
 clear hx hh h hk hget h1 h2 hi hz0 hz1 hz2
 go_enter Tryz.func27,Tryz.ntmps27
 go_wp2_with (refine wpList_load_mid rfl 34 _ rfl b o rfl cs1 _ HR.out.range Tryz.underlying34 rfl hl1.out ?_)
 refine (HK.out _ B N cs1 hN (Nat.le_trans hB H0.out.size) HX.out).mono ?_
 rintro e w1 ⟨sv,l,k,rfl,HO,hlM,HE,hb1⟩
 have H1:=Hd (belowThen H0.out hb1)
 have RB1:=Hd (R0.out.then hb1)
 have e0:=RB1.out.cell c0
 have e1:=RB1.out.cell c1
 have e15:=RB1.out.cell c15
 clear hb1
 have hs1:=Hd H0.out.size
 have HSZ:=Hd RB1.out.lt
 cases k
 ·go_wp2_with fail
  go_ret2
  exact ⟨_,[],false,rfl,Hd (World.ownsRow_nil _ _ _ _),Nat.zero_le _,Hd (by rw [HG.out,HE.out];rfl),H1.out⟩
 ·have HB8:=Hd (show Below w.heap.size w (w1.alloc (.cells #[.bool true,.bool false,.string ⟨#[]⟩,.int .i64 0] 71)) from belowThen H1.out (belowBox _ _))
  have e0':(w1.alloc (.cells #[.bool true,.bool false,.string ⟨#[]⟩,.int .i64 0] 71)).cell? ⟨w.heap.size,0,none⟩=some (.int .i64 8):=(RB1.out.alloc _).cell c0
  go_wp2_with (first
   | (refine wpList_store_new rfl 71 _ _ rfl #[.bool false,.bool false,.string ⟨#[]⟩,.int .i64 0] #[.bool true,.bool false,.string ⟨#[]⟩,.int .i64 0] rfl rfl sizeSEL rfl rfl ?_)
   | (refine wpList_load_mid rfl 71 _ rfl w1.heap.size 0 rfl [.bool true,.bool false,.string ⟨#[]⟩,.int .i64 0] _ (RowT.new w1 71 [.bool true,.bool false,.string ⟨#[]⟩,.int .i64 0]).range Tryz.underlying71 rfl sizeSEL ?_)
   | (at_builtin;refine wpList_append_own _ rfl _ _ 38 rfl (w.alloc (.cells cs.toArray 34)).heap.size 71 i0 (.agg #[.bool false,.bool false,.string ⟨#[]⟩,.int .i64 0]) 4 40 Tryz.underlying38 HI.out HZ0.out HZ1.out HZ2.out rfl (by decide) sv l.length (l.flatMap SelD.cells) rfl ((HO.out.alloc _).alloc _) ⟨w1.heap.size+1,0,none⟩ 1 1 [.bool true,.bool false,.string ⟨#[]⟩,.int .i64 0] rfl rfl ?c1 ?c2 ?c3 ?c4 ?c5 ?_))
  case c1 =>
   have hq:=(src_new (w1.alloc (.cells #[.bool true,.bool false,.string ⟨#[]⟩,.int .i64 0] 71)) [.bool true,.bool false,.string ⟨#[]⟩,.int .i64 0] 71 1).2 _ rfl
   rw [show (w1.alloc (.cells #[.bool true,.bool false,.string ⟨#[]⟩,.int .i64 0] 71)).heap.size=w1.heap.size+1 by simp] at hq
   exact hq
  case c2=>exact sel_one ⟨true,false,⟨#[]⟩,0⟩
  case c3=>unfold maxLen;omega
  case c4=>omega
  case c5 =>
   have hq:=HB8.out.size
   rw [World.size_alloc,World.size_alloc]
   omega
  intro v' w5 hown5 hgrow _
  have HO5:=Hd (show w5.ownsRow w.heap.size 71 4 v' (l++[(⟨true,false,⟨#[]⟩,0⟩:SelD)]).length ((l++[(⟨true,false,⟨#[]⟩,0⟩:SelD)]).flatMap SelD.cells) by
   rw [sel_snoc,List.length_append]
   exact own_less hown5 (by first | exact hs1.out | omega))
  have H5:=Hd (show Below w.heap.size w w5 from (belowThen HB8.out (belowBox _ _)).grown hgrow (by have hq:=HB8.out.size;rw [World.size_alloc];omega) (fun q hq=>by have h1:=(HO.out.lt q hq).1;have h2:=hs1.out;omega))
  clear hown5 hgrow
  go_wp2_with fail
  go_ret2
  exact ⟨_,_,true,rfl,HO5,by simp;omega,Hd (by rw [HG.out];exact selR_app HE.out HQ.out),H5.out⟩
set_option maxRecDepth 100000 in
set_option maxHeartbeats 6400000 in
theorem stp_5 (M:Nat) (hM:M≤48) (g:ExprD→Option (List SelD)) (x:ExprD) (h:x.op=5) (hl:0<x.args.length) (hk:StpX M g x.args[0]):StpX (M+1) (stepS g) x:=by
 intro w B N cs hN hB hx
 obtain ⟨i0,hi,hz0,hz1,hz2⟩:=info_parts infoSEL
 have HI:=Hd hi
 have HZ0:=Hd hz0
 have HZ1:=Hd hz1
 have HZ2:=Hd hz2
 obtain ⟨aa,fa,ac,fc,vs,hh⟩:=hx.has
 have c0:cs[0]?=some (.int .i64 5):=by rw [hh.op,h]
 have c1:=hh.name
 have c15:=hh.args
 have hal:x.args.length≤N:=hh.own.2.2.1
 have HK:=Hd hk
 have HG:=Hd (stepS_bind (g:=g) (x:=x) (by omega) (by omega))
 have HQ:=Hd (selOf_5 h)
 obtain ⟨b,o,rfl,hb,hget⟩:=hh.atArgs.get (by intro h;simp [h] at hl)
 obtain ⟨cs1,h1,h2⟩:=hget 0 (by omega)
 rw [Nat.zero_mul,Nat.add_zero] at h1
 have hl1:=Hd (show (Tryz.prog.info? 34).map (·.size)=some cs1.length by rw [h2.len];exact sizeE)
 have R0:=Hd (RowT.new w 34 cs)
 have H0:=Hd (belowBox w (.cells cs.toArray 34))
 have HR:=Hd (h1.below (H0.out.mono hB) hb)
 have HX:=Hd (h2.below (H0.out.mono hB))
 obtain ⟨nm,hnm⟩:∃ nm,nm=x.name:=⟨_,rfl⟩
 rw [← hnm] at c1 HQ
 clear hnm
 clear hx hh h hk hget h1 h2 hi hz0 hz1 hz2
 go_enter Tryz.func27,Tryz.ntmps27
 go_wp2_with (refine wpList_load_mid rfl 34 _ rfl b o rfl cs1 _ HR.out.range Tryz.underlying34 rfl hl1.out ?_)
 refine (HK.out _ B N cs1 hN (Nat.le_trans hB H0.out.size) HX.out).mono ?_
 rintro e w1 ⟨sv,l,k,rfl,HO,hlM,HE,hb1⟩
 have H1:=Hd (belowThen H0.out hb1)
 have RB1:=Hd (R0.out.then hb1)
 have e0:=RB1.out.cell c0
 have e1:=RB1.out.cell c1
 have e15:=RB1.out.cell c15
 clear hb1
 have hs1:=Hd H0.out.size
 have HSZ:=Hd RB1.out.lt
 cases k
 ·go_wp2_with fail
  go_ret2
  exact ⟨_,[],false,rfl,Hd (World.ownsRow_nil _ _ _ _),Nat.zero_le _,Hd (by rw [HG.out,HE.out];rfl),H1.out⟩
 ·have HB5:=Hd (show Below w.heap.size w ((w1.alloc (.cells #[.bool false,.bool false,.string ⟨#[]⟩,.int .i64 0] 71)).setRow w1.heap.size #[.bool false,.bool false,.string nm,.int .i64 0]) from below_setRow (belowThen H1.out (belowBox _ _)) (Nat.le_of_lt HSZ.out) _)
  have RN:=Hd (RowT.new w1 71 [.bool false,.bool false,.string ⟨#[]⟩,.int .i64 0])
  have HOX:=Hd (show (((w1.alloc (.cells #[.bool false,.bool false,.string ⟨#[]⟩,.int .i64 0] 71)).setRow w1.heap.size #[.bool false,.bool false,.string nm,.int .i64 0]).ownsRow (w.alloc (.cells cs.toArray 34)).heap.size 71 4 sv l.length (l.flatMap SelD.cells)) from own_far (HO.out.alloc _) (fun q hq=>by have h:=(HO.out.lt q hq).2;omega))
  have f0:(w1.alloc (.cells #[.bool false,.bool false,.string ⟨#[]⟩,.int .i64 0] 71)).cell? ⟨w.heap.size,0,none⟩=some (.int .i64 5):=(RB1.out.alloc _).cell c0
  have f1:(w1.alloc (.cells #[.bool false,.bool false,.string ⟨#[]⟩,.int .i64 0] 71)).cell? ⟨w.heap.size,1,none⟩=some (.string nm):=(RB1.out.alloc _).cell c1
  have e0':((w1.alloc (.cells #[.bool false,.bool false,.string ⟨#[]⟩,.int .i64 0] 71)).setRow w1.heap.size #[.bool false,.bool false,.string nm,.int .i64 0]).cell? ⟨w.heap.size,0,none⟩=some (.int .i64 5):=by
   rw [cell_setRow_other _ _ _ _ (show w.heap.size≠w1.heap.size by have:=HSZ.out;omega)]
   exact (RB1.out.alloc _).cell c0
  go_wp2_with (first
   | (refine wpList_store_new rfl 71 _ _ rfl #[.bool false,.bool false,.string ⟨#[]⟩,.int .i64 0] #[.bool false,.bool false,.string ⟨#[]⟩,.int .i64 0] rfl rfl sizeSEL rfl rfl ?_)
   | (refine wpList_store_at rfl 69 _ _ rfl w1.heap.size 1 [.bool false,.string nm,.int .i64 0] rfl rfl 71 [.bool false,.bool false,.string ⟨#[]⟩,.int .i64 0] [.bool false,.bool false,.string nm,.int .i64 0] RN.out sizeSTP rfl (Nat.le_refl 4) (stp_one _ _ _) ?_)
   | (refine wpList_load_mid rfl 71 _ rfl w1.heap.size 0 rfl [.bool false,.bool false,.string nm,.int .i64 0] _ (RN.out.setRow [.bool false,.bool false,.string nm,.int .i64 0]).range Tryz.underlying71 rfl sizeSEL ?_)
   | (at_builtin;refine wpList_append_own _ rfl _ _ 38 rfl (w.alloc (.cells cs.toArray 34)).heap.size 71 i0 (.agg #[.bool false,.bool false,.string ⟨#[]⟩,.int .i64 0]) 4 40 Tryz.underlying38 HI.out HZ0.out HZ1.out HZ2.out rfl (by decide) sv l.length (l.flatMap SelD.cells) rfl (HOX.out.alloc _) ⟨w1.heap.size+1,0,none⟩ 1 1 [.bool false,.bool false,.string nm,.int .i64 0] rfl rfl ?c1 ?c2 ?c3 ?c4 ?c5 ?_))
  case c1 =>
   have hq:=(src_new ((w1.alloc (.cells #[.bool false,.bool false,.string ⟨#[]⟩,.int .i64 0] 71)).setRow w1.heap.size #[.bool false,.bool false,.string nm,.int .i64 0]) [.bool false,.bool false,.string nm,.int .i64 0] 71 1).2 _ rfl
   rw [show ((w1.alloc (.cells #[.bool false,.bool false,.string ⟨#[]⟩,.int .i64 0] 71)).setRow w1.heap.size #[.bool false,.bool false,.string nm,.int .i64 0]).heap.size=w1.heap.size+1 by simp] at hq
   exact hq
  case c2=>exact sel_one ⟨false,false,nm,0⟩
  case c3=>unfold maxLen;omega
  case c4=>omega
  case c5 =>
   have hq:=HB5.out.size
   rw [World.size_alloc,World.size_alloc]
   omega
  intro v' w5 hown5 hgrow _
  have HO5:=Hd (show w5.ownsRow w.heap.size 71 4 v' (l++[(⟨false,false,nm,0⟩:SelD)]).length ((l++[(⟨false,false,nm,0⟩:SelD)]).flatMap SelD.cells) by
   rw [sel_snoc,List.length_append]
   exact own_less hown5 (by first | exact hs1.out | omega))
  have H5:=Hd (show Below w.heap.size w w5 from (belowThen HB5.out (belowBox _ _)).grown hgrow (by have hq:=HB5.out.size;rw [World.size_alloc];omega) (fun q hq=>by have h1:=(HO.out.lt q hq).1;have h2:=hs1.out;omega))
  clear hown5 hgrow
  go_wp2_with fail
  go_ret2
  exact ⟨_,_,true,rfl,HO5,by simp;omega,Hd (by rw [HG.out];exact selR_app HE.out HQ.out),H5.out⟩
set_option maxRecDepth 100000 in
set_option maxHeartbeats 6400000 in
theorem stp_6 (M:Nat) (hM:M≤48) (g:ExprD→Option (List SelD)) (x:ExprD) (h:x.op=6) (hl:1<x.args.length) (hk:StpX M g x.args[0])
 (hs:VDec x.args[1].val.num):StpX (M+1) (stepS g) x:=by
 intro w B N cs hN hB hx
 obtain ⟨i0,hi,hz0,hz1,hz2⟩:=info_parts infoSEL
 have HI:=Hd hi
 have HZ0:=Hd hz0
 have HZ1:=Hd hz1
 have HZ2:=Hd hz2
 obtain ⟨aa,fa,ac,fc,vs,hh⟩:=hx.has
 have c0:cs[0]?=some (.int .i64 6):=by rw [hh.op,h]
 have c1:=hh.name
 have c15:=hh.args
 have hal:x.args.length≤N:=hh.own.2.2.1
 have HK:=Hd hk
 have HG:=Hd (stepS_bind (g:=g) (x:=x) (by omega) (by omega))
 have HQ:=Hd (selOf_6 h hl)
 obtain ⟨b,o,rfl,hb,hget⟩:=hh.atArgs.get (by intro h;simp [h] at hl)
 obtain ⟨cs1,h1,h2⟩:=hget 0 (by omega)
 rw [Nat.zero_mul,Nat.add_zero] at h1
 have hl1:=Hd (show (Tryz.prog.info? 34).map (·.size)=some cs1.length by rw [h2.len];exact sizeE)
 have R0:=Hd (RowT.new w 34 cs)
 have H0:=Hd (belowBox w (.cells cs.toArray 34))
 have HR:=Hd (h1.below (H0.out.mono hB) hb)
 have HX:=Hd (h2.below (H0.out.mono hB))
 obtain ⟨cs2,k1,k2⟩:=hget 1 hl
 rw [Nat.one_mul] at k1
 have HR2:=Hd k1
 have HV:=Hd hs
 have HBb:=Hd hb
 have hl2:=Hd (show (Tryz.prog.info? 34).map (·.size)=some cs2.length by rw [k2.len];exact sizeE)
 have hl3:=Hd (show (Tryz.prog.info? 34).map (·.size)=some cs2.toArray.size by rw [List.size_toArray,k2.len];exact sizeE)
 have hl4:=Hd (show zeroEA.size=cs2.toArray.size by show 17=_;rw [List.size_toArray,k2.len])
 have hone:=Hd (show cs2.toArray.all (·.oneCell')=true from Go.all_oneCell_toArray k2.one)
 have HSJ:=Hd (smlN_toJ x.args[1])
 obtain ⟨d0,d2,hnm⟩:=num_cells k2
 have HNM:=Hd hnm
 clear k1 k2 hs hb hnm
 clear hx hh h hk hget h1 h2 hi hz0 hz1 hz2
 go_enter Tryz.func27,Tryz.ntmps27
 go_wp2_with (refine wpList_load_mid rfl 34 _ rfl b o rfl cs1 _ HR.out.range Tryz.underlying34 rfl hl1.out ?_)
 refine (HK.out _ B N cs1 hN (Nat.le_trans hB H0.out.size) HX.out).mono ?_
 rintro e w1 ⟨sv,l,k,rfl,HO,hlM,HE,hb1⟩
 have H1:=Hd (belowThen H0.out hb1)
 have RB1:=Hd (R0.out.then hb1)
 have e0:=RB1.out.cell c0
 have e1:=RB1.out.cell c1
 have e15:=RB1.out.cell c15
 clear hb1
 have hs1:=Hd H0.out.size
 have HSZ:=Hd RB1.out.lt
 cases k
 ·go_wp2_with fail
  go_ret2
  exact ⟨_,[],false,rfl,Hd (World.ownsRow_nil _ _ _ _),Nat.zero_le _,Hd (by rw [HG.out,HE.out];rfl),H1.out⟩
 ·have H2:=Hd (belowThen H1.out (belowThen (belowBox w1 (.cells #[.bool false,.bool false,.string ⟨#[]⟩,.int .i64 0] 71)) (belowBox (w1.alloc (.cells #[.bool false,.bool false,.string ⟨#[]⟩,.int .i64 0] 71)) (.cells cs2.toArray 34))))
  obtain ⟨w2,hw2⟩:∃ w2,w2=(w1.alloc (.cells #[.bool false,.bool false,.string ⟨#[]⟩,.int .i64 0] 71)).alloc (.cells cs2.toArray 34):=⟨_,rfl⟩
  have RS2:=Hd (show RowT 71 w2 w1.heap.size [.bool false,.bool false,.string ⟨#[]⟩,.int .i64 0] by rw [hw2];exact (RowT.new w1 71 [.bool false,.bool false,.string ⟨#[]⟩,.int .i64 0]).alloc _)
  have RI2:=Hd (show RowT 34 w2 (w1.heap.size+1) cs2 by
   rw [hw2]
   have h:=RowT.new (w1.alloc (.cells #[.bool false,.bool false,.string ⟨#[]⟩,.int .i64 0] 71)) 34 cs2
   rwa [World.size_alloc] at h)
  have RB2:=Hd (show RowT 34 w2 w.heap.size cs by rw [hw2];exact (RB1.out.alloc _).alloc _)
  have HO2:=Hd (show w2.ownsRow (w.alloc (.cells cs.toArray 34)).heap.size 71 4 sv l.length (l.flatMap SelD.cells) by rw [hw2];exact (HO.out.alloc _).alloc _)
  have HR6:=Hd (show CellsAt (w1.alloc (.cells #[.bool false,.bool false,.string ⟨#[]⟩,.int .i64 0] 71)) b (o+17) cs2 from HR2.out.below ((belowThen H1.out (belowBox _ _)).mono hB) HBb.out)
  have HR7:=Hd (show CellsAt w2 (w1.heap.size+1) 4 [.bool x.args[1].val.num.neg,.string x.args[1].val.num.digits,.int .i64 x.args[1].val.num.exp] from cellsOfRange (RI2.out.cells.part HNM.out))
  rw [← hw2] at H2
  have HW:=Hd hw2
  have e0':(w1.alloc (.cells #[.bool false,.bool false,.string ⟨#[]⟩,.int .i64 0] 71)).cell? ⟨w.heap.size,0,none⟩=some (.int .i64 6):=(RB1.out.alloc _).cell c0
  have e15':(w1.alloc (.cells #[.bool false,.bool false,.string ⟨#[]⟩,.int .i64 0] 71)).cell? ⟨w.heap.size,15,none⟩=some (.slice (some ⟨b,o,none⟩) x.args.length ac):=(RB1.out.alloc _).cell c15
  clear hw2
  go_wp2_with (first
   | (refine wpList_store_new rfl 71 _ _ rfl #[.bool false,.bool false,.string ⟨#[]⟩,.int .i64 0] #[.bool false,.bool false,.string ⟨#[]⟩,.int .i64 0] rfl rfl sizeSEL rfl rfl ?_)
   | (refine wpList_load_mid rfl 34 _ rfl b (o+17) rfl cs2 _ HR6.out.range Tryz.underlying34 rfl hl2.out ?_)
   | (refine wpList_store_new2 rfl 34 _ _ rfl (w1.heap.size+1) (by rw [World.size_alloc]) zeroEA cs2.toArray rfl rfl hl3.out hl4.out hone.out ?_)
   | (refine wpList_load_mid rfl 24 _ rfl (w1.heap.size+1) 4 rfl [.bool x.args[1].val.num.neg,.string x.args[1].val.num.digits,.int .i64 x.args[1].val.num.exp] _ (by rw [← HW.out];exact HR7.out.range) Tryz.underlying24 rfl sizeDEC ?_))
  rw [← HW.out]
  refine (toj_ref x.args[1].val.num w2 HV.out).mono ?_
  rintro e w3 ⟨rfl,hb3⟩
  have H3:=Hd (belowThen H2.out hb3)
  have RS3:=Hd (RS2.out.then hb3)
  have HO3:=Hd (own_below' HO2.out hb3)
  have RI3:=Hd (RI2.out.then hb3)
  have f0:=RI3.out.cell d0
  have f2:=RI3.out.cell d2
  have hs31:=Hd (show w1.heap.size+2≤w3.heap.size from by have h:=RI3.out.lt;omega)
  clear hb3 e0' e15' e0 e1 e15 HW
  generalize x.args[1].op=p at *
  generalize x.args[1].val.kind=kd at *
  generalize (toJ x.args[1].val.num).1=n at *
  generalize (toJ x.args[1].val.num).2=f at *
  by_cases hp:p=3
  rotate_left
  ·have n3:(p != 3)=true:=by simpa using hp
   have HN:=Hd (show smlN x.args[1]=none by rw [HSJ.out,if_neg (fun g=>hp g.1)])
   go_wp2_with fail
   go_ret2
   exact ⟨_,[],false,rfl,Hd (World.ownsRow_nil _ _ _ _),Nat.zero_le _,Hd (by rw [HG.out,HQ.out,HN.out];exact selR_none),H3.out⟩
  by_cases hkd:kd=2
  rotate_left
  ·have n2:(kd != 2)=true:=by simpa using hkd
   have HN:=Hd (show smlN x.args[1]=none by rw [HSJ.out,if_neg (fun g=>hkd g.2.1)])
   subst hp
   go_wp2_with fail
   go_ret2
   exact ⟨_,[],false,rfl,Hd (World.ownsRow_nil _ _ _ _),Nat.zero_le _,Hd (by rw [HG.out,HQ.out,HN.out];exact selR_none),H3.out⟩
  by_cases hf:f=0
  rotate_left
  ·have n0:(f != 0)=true:=by simpa using hf
   have HN:=Hd (show smlN x.args[1]=none by rw [HSJ.out,if_neg (fun g=>hf g.2.2.1)])
   subst hp hkd
   go_wp2_with fail
   go_ret2
   exact ⟨_,[],false,rfl,Hd (World.ownsRow_nil _ _ _ _),Nat.zero_le _,Hd (by rw [HG.out,HQ.out,HN.out];exact selR_none),H3.out⟩
  by_cases hn:n≤65536
  rotate_left
  ·have n6:65536<n:=by omega
   have HN:=Hd (show smlN x.args[1]=none by rw [HSJ.out,if_neg (fun g=>hn g.2.2.2)])
   subst hp hkd hf
   clear hn
   go_wp2_with fail
   go_ret2
   exact ⟨_,[],false,rfl,Hd (World.ownsRow_nil _ _ _ _),Nat.zero_le _,Hd (by rw [HG.out,HQ.out,HN.out];exact selR_none),H3.out⟩
  have HQ2:=Hd (show selOf x=some ⟨false,true,⟨#[]⟩,n⟩ by rw [HQ.out,HSJ.out,if_pos ⟨hp,hkd,hf,hn⟩];rfl)
  subst hp hkd hf
  have HB6:=Hd (show Below w.heap.size w (w3.setRow w1.heap.size #[.bool false,.bool true,.string ⟨#[]⟩,.int .i64 n]) from below_setRow H3.out (Nat.le_of_lt HSZ.out) _)
  have HOX:=Hd (show ((w3.setRow w1.heap.size #[.bool false,.bool true,.string ⟨#[]⟩,.int .i64 n]).ownsRow (w.alloc (.cells cs.toArray 34)).heap.size 71 4 sv l.length (l.flatMap SelD.cells)) from own_far HO3.out (fun q hq=>by have h:=(HO.out.lt q hq).2;omega))
  go_wp2_with (first
   | (refine wpList_store_at rfl 69 _ _ rfl w1.heap.size 1 [.bool true,.string ⟨#[]⟩,.int .i64 n] rfl rfl 71 [.bool false,.bool false,.string ⟨#[]⟩,.int .i64 0] [.bool false,.bool true,.string ⟨#[]⟩,.int .i64 n] RS3.out sizeSTP rfl (Nat.le_refl 4) (stp_one _ _ _) ?_)
   | (refine wpList_load_mid rfl 71 _ rfl w1.heap.size 0 rfl [.bool false,.bool true,.string ⟨#[]⟩,.int .i64 n] _ (RS3.out.setRow [.bool false,.bool true,.string ⟨#[]⟩,.int .i64 n]).range Tryz.underlying71 rfl sizeSEL ?_)
   | (at_builtin;refine wpList_append_own _ rfl _ _ 38 rfl (w.alloc (.cells cs.toArray 34)).heap.size 71 i0 (.agg #[.bool false,.bool false,.string ⟨#[]⟩,.int .i64 0]) 4 40 Tryz.underlying38 HI.out HZ0.out HZ1.out HZ2.out rfl (by decide) sv l.length (l.flatMap SelD.cells) rfl (HOX.out.alloc _) ⟨w3.heap.size,0,none⟩ 1 1 [.bool false,.bool true,.string ⟨#[]⟩,.int .i64 n] rfl rfl ?c1 ?c2 ?c3 ?c4 ?c5 ?_))
  case c1 =>
   have hq:=(src_new (w3.setRow w1.heap.size #[.bool false,.bool true,.string ⟨#[]⟩,.int .i64 n]) [.bool false,.bool true,.string ⟨#[]⟩,.int .i64 n] 71 1).2 _ rfl
   rw [show (w3.setRow w1.heap.size #[.bool false,.bool true,.string ⟨#[]⟩,.int .i64 n]).heap.size=w3.heap.size by simp] at hq
   exact hq
  case c2=>exact sel_one ⟨false,true,⟨#[]⟩,n⟩
  case c3=>unfold maxLen;omega
  case c4=>omega
  case c5 =>
   have hq:=HB6.out.size
   rw [World.size_alloc,World.size_alloc]
   omega
  intro v' w5 hown5 hgrow _
  have HO5:=Hd (show w5.ownsRow w.heap.size 71 4 v' (l++[(⟨false,true,⟨#[]⟩,n⟩:SelD)]).length ((l++[(⟨false,true,⟨#[]⟩,n⟩:SelD)]).flatMap SelD.cells) by
   rw [sel_snoc,List.length_append]
   exact own_less hown5 (by first | exact hs1.out | omega))
  have H5:=Hd (show Below w.heap.size w w5 from (belowThen HB6.out (belowBox _ _)).grown hgrow (by have hq:=HB6.out.size;rw [World.size_alloc];omega) (fun q hq=>by have h1:=(HO.out.lt q hq).1;have h2:=hs1.out;omega))
  clear hown5 hgrow
  go_wp2_with fail
  go_ret2
  exact ⟨_,_,true,rfl,HO5,by simp;omega,Hd (by rw [HG.out];exact selR_app HE.out HQ2.out),H5.out⟩
theorem stp_30 (m M:Nat) {x:ExprD} (h:x.op=30):StpX M (selS m) x:=by
 cases m with
 | zero=>exact stp_no M _ x (by omega) (by omega) (by omega) (by omega)
 | succ m=>exact stp_no M _ x (by omega) (by omega) (by omega) (by omega)
theorem abs_dec {x:ExprD} (h:absB x=true):VDec x.val.num:=by
 obtain ⟨_,_,hz,_⟩:=of_decide_eq_true h
 obtain ⟨_,_,k1,_⟩:=of_decide_eq_true hz
 exact (vdecB_iff _).1 (vdec_zero k1)
theorem stp_step (M:Nat) (hM:M≤48) (g:ExprD→Option (List SelD)) (x:ExprD) (h1:wf1 x) (hk:∀ k (h:k<x.args.length),StpX M g x.args[k]∧(x.args[k].op=30∨wf1 x.args[k])):StpX (M+1) (stepS g) x:=by
 by_cases h0:x.op=1
 ·exact stp_1 (M+1) g x h0
 by_cases h5:x.op=5
 ·have hl:=wf_num h1 (n:=1) (by rw [h5];decide)
  exact stp_5 M hM g x h5 (by omega) (hk 0 (by omega)).1
 by_cases h8:x.op=8
 ·have hl:=wf_num h1 (n:=1) (by rw [h8];decide)
  exact stp_8 M hM g x h8 (by omega) (hk 0 (by omega)).1
 by_cases h6:x.op=6
 ·have hl:=wf_num h1 (n:=2) (by rw [h6];decide)
  refine stp_6 M hM g x h6 (by omega) (hk 0 (by omega)).1 ?_
  rcases (hk 1 (by omega)).2 with h | h
  ·exact abs_dec (wf_abs h1 (by omega) h).2
  ·exact (wf_dec h).1
 exact stp_no (M+1) g x h0 h5 h6 h8
theorem stp_all:∀ (m:Nat) (x:ExprD),m≤48→wfE m x→StpX (m+1) (selS m) x:=by
 intro m
 induction m with
 | zero =>
   intro x _ h
   exact stp_step 0 (by omega) _ x (wfE_1 h) (fun k hk=>by rw [h.2.1] at hk;simp at hk)
 | succ m ih =>
   intro x hm h
   refine stp_step (m+1) hm _ x (wfE_1 h) (fun k hk=>?_)
   rcases h.2.1 _ (List.getElem_mem hk) with h1 | h1
   ·exact ⟨stp_30 m (m+1) h1,.inl h1⟩
   ·exact ⟨ih _ (by omega) h1,.inr (wfE_1 h1)⟩
end Go.Proofs.YticpebgjbfanpaaGreatDoor
