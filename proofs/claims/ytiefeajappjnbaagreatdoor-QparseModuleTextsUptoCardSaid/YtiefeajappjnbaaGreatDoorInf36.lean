/- The reference's infix (printed by genref36.py). -/
import Derived.Test.YtiefeajappjnbaaGreatDoorGA
import Derived.Test.YtiefeajappjnbaaGreatDoorMK
namespace Go.Proofs.YtiefeajappjnbaaGreatDoor
open Go.RowKit
theorem lev_le (e:ExprD):levS e≤10:=by
 unfold levS
 (repeat' split)<;>decide
set_option maxRecDepth 100000 in
set_option maxHeartbeats 6400000 in
theorem infix_9 (f:ExprD→ByteArray) (x:ExprD) (ho:x.op=9) (hn:x.args.length=2) (k0:KidR f (x.args.getD 0 default)) (k1:KidR f (x.args.getD 1 default))
 (w:World) (B N:Nat) (cs:List Value) (hN:N≤1048576) (hB:B≤w.heap.size) (hE:Env w) (hx:ExprD.At w B N x cs):Calls Tryz.prog 70 #[.agg cs.toArray] w (StrB (stepT f x) w):=by
 have HX:=Hd hx
 have HE:=Hd hE
 have HO:=Hd ho
 have K0:=Hd k0
 have K1:=Hd k1
 have HN:=Hd hn
 have hl:=Hd (show (Tryz.prog.info? 34).map (·.size)=some cs.length by rw [hx.len];kernel_rfl)
 obtain ⟨aa,fa,ac,fc,vs,hh⟩:=hx.has
 have HC0:=Hd (show cs[0]?=some (.int .i64 9) by rw [← ho];exact hh.op)
 have hnm:=Hd (show x.name.size≤1048576 from Nat.le_trans hh.own.2.1 hN)
 obtain ⟨nm,hnm2⟩:∃ nm,x.name=nm:=⟨_,rfl⟩
 have HNE:=Hd hnm2
 have znm:nm.size≤1048576:=by rw [← hnm2];exact hnm.out
 have HC1:=Hd (show cs[1]?=some (.string nm) by rw [← hnm2];exact hh.name)
 obtain ⟨w1,hw1⟩:∃ w1,w1=w.alloc (.cells cs.toArray 34):=⟨_,rfl⟩
 have HW:=Hd hw1
 have R0:=Hd (show RowT 34 w1 w.heap.size cs by rw [hw1];exact RowT.new w 34 cs)
 have H0:=Hd (show Below w.heap.size w w1 by rw [hw1];exact belowBox w _)
 have HKA:=Hd (show ∀ v,Below w.heap.size w v→B≤v.heap.size∧Env v∧ExprD.At v B N x cs from fun v hv=>⟨Nat.le_trans hB hv.size,HE.out.then hv,HX.out.below (hv.mono hB)⟩)
 have e0:=R0.out.cell HC0.out
 have e1:=R0.out.cell HC1.out
 rw [hw1] at e0 e1
 obtain ⟨s,hs⟩:∃ s,stepT f x=s:=⟨_,rfl⟩
 have HST:=Hd hs
 have HR:=Hd (show s=twoS f x 1 ⟨#[32,124,32]⟩ 0 by
  rw [← HST.out]
  unfold stepT
  rw [HO.out]
  simp only [if_true,if_false,Int.reduceEq]
  skip)
 clear hx hE hh ho hnm2 hw1 hs k0 k1 hn
 go_enter Tryz.func70,Tryz.ntmps70
 go_wp2_with ((with_reducible show wpList _ _ _ (⟨some 8,_,_,_,_,_⟩::_) _ _);refine wpList_load_mid rfl 34 _ rfl w.heap.size 0 rfl cs _ (by rw [← HW.out];exact R0.out.range) Tryz.underlying34 rfl hl.out ?_)
 rw [← HW.out]
 refine (two_r f x 1 0 ⟨#[32,124,32]⟩ HN.out K0.out K1.out (by decide) _ B N cs hN (HKA.out _ H0.out).1 (HKA.out _ H0.out).2.1 (HKA.out _ H0.out).2.2).mono ?_
 rw [← HR.out]
 rintro e wu ⟨rfl,hb1⟩
 have HU:=Hd (belowThen H0.out hb1)
 clear hb1
 go_wp2_with fail
 go_ret
 exact ⟨by rw [HST.out];rfl,HU.out⟩
set_option maxRecDepth 100000 in
set_option maxHeartbeats 6400000 in
theorem infix_10 (f:ExprD→ByteArray) (x:ExprD) (ho:x.op=10) (hn:x.args.length=2) (k0:KidR f (x.args.getD 0 default)) (k1:KidR f (x.args.getD 1 default))
 (w:World) (B N:Nat) (cs:List Value) (hN:N≤1048576) (hB:B≤w.heap.size) (hE:Env w) (hx:ExprD.At w B N x cs):Calls Tryz.prog 70 #[.agg cs.toArray] w (StrB (stepT f x) w):=by
 have HX:=Hd hx
 have HE:=Hd hE
 have HO:=Hd ho
 have K0:=Hd k0
 have K1:=Hd k1
 have HN:=Hd hn
 have hl:=Hd (show (Tryz.prog.info? 34).map (·.size)=some cs.length by rw [hx.len];kernel_rfl)
 obtain ⟨aa,fa,ac,fc,vs,hh⟩:=hx.has
 have HC0:=Hd (show cs[0]?=some (.int .i64 10) by rw [← ho];exact hh.op)
 have hnm:=Hd (show x.name.size≤1048576 from Nat.le_trans hh.own.2.1 hN)
 obtain ⟨nm,hnm2⟩:∃ nm,x.name=nm:=⟨_,rfl⟩
 have HNE:=Hd hnm2
 have znm:nm.size≤1048576:=by rw [← hnm2];exact hnm.out
 have HC1:=Hd (show cs[1]?=some (.string nm) by rw [← hnm2];exact hh.name)
 obtain ⟨w1,hw1⟩:∃ w1,w1=w.alloc (.cells cs.toArray 34):=⟨_,rfl⟩
 have HW:=Hd hw1
 have R0:=Hd (show RowT 34 w1 w.heap.size cs by rw [hw1];exact RowT.new w 34 cs)
 have H0:=Hd (show Below w.heap.size w w1 by rw [hw1];exact belowBox w _)
 have HKA:=Hd (show ∀ v,Below w.heap.size w v→B≤v.heap.size∧Env v∧ExprD.At v B N x cs from fun v hv=>⟨Nat.le_trans hB hv.size,HE.out.then hv,HX.out.below (hv.mono hB)⟩)
 have e0:=R0.out.cell HC0.out
 have e1:=R0.out.cell HC1.out
 rw [hw1] at e0 e1
 obtain ⟨s,hs⟩:∃ s,stepT f x=s:=⟨_,rfl⟩
 have HST:=Hd hs
 have HR:=Hd (show s=twoS f x 1 ⟨#[44,32]⟩ 2 by
  rw [← HST.out]
  unfold stepT
  rw [HO.out]
  simp only [if_true,if_false,Int.reduceEq]
  skip)
 clear hx hE hh ho hnm2 hw1 hs k0 k1 hn
 go_enter Tryz.func70,Tryz.ntmps70
 go_wp2_with ((with_reducible show wpList _ _ _ (⟨some 12,_,_,_,_,_⟩::_) _ _);refine wpList_load_mid rfl 34 _ rfl w.heap.size 0 rfl cs _ (by rw [← HW.out];exact R0.out.range) Tryz.underlying34 rfl hl.out ?_)
 rw [← HW.out]
 refine (two_r f x 1 2 ⟨#[44,32]⟩ HN.out K0.out K1.out (by decide) _ B N cs hN (HKA.out _ H0.out).1 (HKA.out _ H0.out).2.1 (HKA.out _ H0.out).2.2).mono ?_
 rw [← HR.out]
 rintro e wu ⟨rfl,hb1⟩
 have HU:=Hd (belowThen H0.out hb1)
 clear hb1
 go_wp2_with fail
 go_ret
 exact ⟨by rw [HST.out];rfl,HU.out⟩
set_option maxRecDepth 100000 in
set_option maxHeartbeats 6400000 in
theorem infix_16 (f:ExprD→ByteArray) (x:ExprD) (ho:x.op=16) (hn:x.args.length=2) (k0:KidR f (x.args.getD 0 default)) (k1:KidR f (x.args.getD 1 default))
 (w:World) (B N:Nat) (cs:List Value) (hN:N≤1048576) (hB:B≤w.heap.size) (hE:Env w) (hx:ExprD.At w B N x cs):Calls Tryz.prog 70 #[.agg cs.toArray] w (StrB (stepT f x) w):=by
 have HX:=Hd hx
 have HE:=Hd hE
 have HO:=Hd ho
 have K0:=Hd k0
 have K1:=Hd k1
 have HN:=Hd hn
 have hl:=Hd (show (Tryz.prog.info? 34).map (·.size)=some cs.length by rw [hx.len];kernel_rfl)
 obtain ⟨aa,fa,ac,fc,vs,hh⟩:=hx.has
 have HC0:=Hd (show cs[0]?=some (.int .i64 16) by rw [← ho];exact hh.op)
 have hnm:=Hd (show x.name.size≤1048576 from Nat.le_trans hh.own.2.1 hN)
 obtain ⟨nm,hnm2⟩:∃ nm,x.name=nm:=⟨_,rfl⟩
 have HNE:=Hd hnm2
 have znm:nm.size≤1048576:=by rw [← hnm2];exact hnm.out
 have HC1:=Hd (show cs[1]?=some (.string nm) by rw [← hnm2];exact hh.name)
 obtain ⟨w1,hw1⟩:∃ w1,w1=w.alloc (.cells cs.toArray 34):=⟨_,rfl⟩
 have HW:=Hd hw1
 have R0:=Hd (show RowT 34 w1 w.heap.size cs by rw [hw1];exact RowT.new w 34 cs)
 have H0:=Hd (show Below w.heap.size w w1 by rw [hw1];exact belowBox w _)
 have HKA:=Hd (show ∀ v,Below w.heap.size w v→B≤v.heap.size∧Env v∧ExprD.At v B N x cs from fun v hv=>⟨Nat.le_trans hB hv.size,HE.out.then hv,HX.out.below (hv.mono hB)⟩)
 have e0:=R0.out.cell HC0.out
 have e1:=R0.out.cell HC1.out
 rw [hw1] at e0 e1
 obtain ⟨s,hs⟩:∃ s,stepT f x=s:=⟨_,rfl⟩
 have HST:=Hd hs
 have HR:=Hd (show s=twoS f x 3 ⟨#[32,47,47,32]⟩ 2 by
  rw [← HST.out]
  unfold stepT
  rw [HO.out]
  simp only [if_true,if_false,Int.reduceEq]
  skip)
 clear hx hE hh ho hnm2 hw1 hs k0 k1 hn
 go_enter Tryz.func70,Tryz.ntmps70
 go_wp2_with ((with_reducible show wpList _ _ _ (⟨some 16,_,_,_,_,_⟩::_) _ _);refine wpList_load_mid rfl 34 _ rfl w.heap.size 0 rfl cs _ (by rw [← HW.out];exact R0.out.range) Tryz.underlying34 rfl hl.out ?_)
 rw [← HW.out]
 refine (two_r f x 3 2 ⟨#[32,47,47,32]⟩ HN.out K0.out K1.out (by decide) _ B N cs hN (HKA.out _ H0.out).1 (HKA.out _ H0.out).2.1 (HKA.out _ H0.out).2.2).mono ?_
 rw [← HR.out]
 rintro e wu ⟨rfl,hb1⟩
 have HU:=Hd (belowThen H0.out hb1)
 clear hb1
 go_wp2_with fail
 go_ret
 exact ⟨by rw [HST.out];rfl,HU.out⟩
set_option maxRecDepth 100000 in
set_option maxHeartbeats 6400000 in
theorem infix_28 (f:ExprD→ByteArray) (x:ExprD) (ho:x.op=28) (hn:x.args.length=2) (k0:KidR f (x.args.getD 0 default)) (k1:KidR f (x.args.getD 1 default))
 (w:World) (B N:Nat) (cs:List Value) (hN:N≤1048576) (hB:B≤w.heap.size) (hE:Env w) (hx:ExprD.At w B N x cs):Calls Tryz.prog 70 #[.agg cs.toArray] w (StrB (stepT f x) w):=by
 have HX:=Hd hx
 have HE:=Hd hE
 have HO:=Hd ho
 have K0:=Hd k0
 have K1:=Hd k1
 have HN:=Hd hn
 have hl:=Hd (show (Tryz.prog.info? 34).map (·.size)=some cs.length by rw [hx.len];kernel_rfl)
 obtain ⟨aa,fa,ac,fc,vs,hh⟩:=hx.has
 have HC0:=Hd (show cs[0]?=some (.int .i64 28) by rw [← ho];exact hh.op)
 have hnm:=Hd (show x.name.size≤1048576 from Nat.le_trans hh.own.2.1 hN)
 obtain ⟨nm,hnm2⟩:∃ nm,x.name=nm:=⟨_,rfl⟩
 have HNE:=Hd hnm2
 have znm:nm.size≤1048576:=by rw [← hnm2];exact hnm.out
 have HC1:=Hd (show cs[1]?=some (.string nm) by rw [← hnm2];exact hh.name)
 obtain ⟨w1,hw1⟩:∃ w1,w1=w.alloc (.cells cs.toArray 34):=⟨_,rfl⟩
 have HW:=Hd hw1
 have R0:=Hd (show RowT 34 w1 w.heap.size cs by rw [hw1];exact RowT.new w 34 cs)
 have H0:=Hd (show Below w.heap.size w w1 by rw [hw1];exact belowBox w _)
 have HKA:=Hd (show ∀ v,Below w.heap.size w v→B≤v.heap.size∧Env v∧ExprD.At v B N x cs from fun v hv=>⟨Nat.le_trans hB hv.size,HE.out.then hv,HX.out.below (hv.mono hB)⟩)
 have e0:=R0.out.cell HC0.out
 have e1:=R0.out.cell HC1.out
 rw [hw1] at e0 e1
 obtain ⟨s,hs⟩:∃ s,stepT f x=s:=⟨_,rfl⟩
 have HST:=Hd hs
 have HR:=Hd (show s=twoS f x 4 ⟨#[32,61,32]⟩ 4 by
  rw [← HST.out]
  unfold stepT
  rw [HO.out]
  simp only [if_true,if_false,Int.reduceEq]
  skip)
 clear hx hE hh ho hnm2 hw1 hs k0 k1 hn
 go_enter Tryz.func70,Tryz.ntmps70
 go_wp2_with ((with_reducible show wpList _ _ _ (⟨some 20,_,_,_,_,_⟩::_) _ _);refine wpList_load_mid rfl 34 _ rfl w.heap.size 0 rfl cs _ (by rw [← HW.out];exact R0.out.range) Tryz.underlying34 rfl hl.out ?_)
 rw [← HW.out]
 refine (two_r f x 4 4 ⟨#[32,61,32]⟩ HN.out K0.out K1.out (by decide) _ B N cs hN (HKA.out _ H0.out).1 (HKA.out _ H0.out).2.1 (HKA.out _ H0.out).2.2).mono ?_
 rw [← HR.out]
 rintro e wu ⟨rfl,hb1⟩
 have HU:=Hd (belowThen H0.out hb1)
 clear hb1
 go_wp2_with fail
 go_ret
 exact ⟨by rw [HST.out];rfl,HU.out⟩
set_option maxRecDepth 100000 in
set_option maxHeartbeats 6400000 in
theorem infix_29 (f:ExprD→ByteArray) (x:ExprD) (ho:x.op=29) (hn:x.args.length=2) (k0:KidR f (x.args.getD 0 default)) (k1:KidR f (x.args.getD 1 default))
 (w:World) (B N:Nat) (cs:List Value) (hN:N≤1048576) (hB:B≤w.heap.size) (hE:Env w) (hx:ExprD.At w B N x cs):Calls Tryz.prog 70 #[.agg cs.toArray] w (StrB (stepT f x) w):=by
 have HX:=Hd hx
 have HE:=Hd hE
 have HO:=Hd ho
 have K0:=Hd k0
 have K1:=Hd k1
 have HN:=Hd hn
 have hl:=Hd (show (Tryz.prog.info? 34).map (·.size)=some cs.length by rw [hx.len];kernel_rfl)
 obtain ⟨aa,fa,ac,fc,vs,hh⟩:=hx.has
 have HC0:=Hd (show cs[0]?=some (.int .i64 29) by rw [← ho];exact hh.op)
 have hnm:=Hd (show x.name.size≤1048576 from Nat.le_trans hh.own.2.1 hN)
 obtain ⟨nm,hnm2⟩:∃ nm,x.name=nm:=⟨_,rfl⟩
 have HNE:=Hd hnm2
 have znm:nm.size≤1048576:=by rw [← hnm2];exact hnm.out
 have HC1:=Hd (show cs[1]?=some (.string nm) by rw [← hnm2];exact hh.name)
 obtain ⟨w1,hw1⟩:∃ w1,w1=w.alloc (.cells cs.toArray 34):=⟨_,rfl⟩
 have HW:=Hd hw1
 have R0:=Hd (show RowT 34 w1 w.heap.size cs by rw [hw1];exact RowT.new w 34 cs)
 have H0:=Hd (show Below w.heap.size w w1 by rw [hw1];exact belowBox w _)
 have HKA:=Hd (show ∀ v,Below w.heap.size w v→B≤v.heap.size∧Env v∧ExprD.At v B N x cs from fun v hv=>⟨Nat.le_trans hB hv.size,HE.out.then hv,HX.out.below (hv.mono hB)⟩)
 have e0:=R0.out.cell HC0.out
 have e1:=R0.out.cell HC1.out
 rw [hw1] at e0 e1
 obtain ⟨s,hs⟩:∃ s,stepT f x=s:=⟨_,rfl⟩
 have HST:=Hd hs
 have HR:=Hd (show s=twoS f x 4 ⟨#[32,124,61,32]⟩ 4 by
  rw [← HST.out]
  unfold stepT
  rw [HO.out]
  simp only [if_true,if_false,Int.reduceEq]
  skip)
 clear hx hE hh ho hnm2 hw1 hs k0 k1 hn
 go_enter Tryz.func70,Tryz.ntmps70
 go_wp2_with ((with_reducible show wpList _ _ _ (⟨some 24,_,_,_,_,_⟩::_) _ _);refine wpList_load_mid rfl 34 _ rfl w.heap.size 0 rfl cs _ (by rw [← HW.out];exact R0.out.range) Tryz.underlying34 rfl hl.out ?_)
 rw [← HW.out]
 refine (two_r f x 4 4 ⟨#[32,124,61,32]⟩ HN.out K0.out K1.out (by decide) _ B N cs hN (HKA.out _ H0.out).1 (HKA.out _ H0.out).2.1 (HKA.out _ H0.out).2.2).mono ?_
 rw [← HR.out]
 rintro e wu ⟨rfl,hb1⟩
 have HU:=Hd (belowThen H0.out hb1)
 clear hb1
 go_wp2_with fail
 go_ret
 exact ⟨by rw [HST.out];rfl,HU.out⟩
set_option maxRecDepth 100000 in
set_option maxHeartbeats 6400000 in
theorem infix_15 (f:ExprD→ByteArray) (x:ExprD) (ho:x.op=15) (hn:x.args.length=2) (k0:KidR f (x.args.getD 0 default)) (k1:KidR f (x.args.getD 1 default))
 (w:World) (B N:Nat) (cs:List Value) (hN:N≤1048576) (hB:B≤w.heap.size) (hE:Env w) (hx:ExprD.At w B N x cs):Calls Tryz.prog 70 #[.agg cs.toArray] w (StrB (stepT f x) w):=by
 have HX:=Hd hx
 have HE:=Hd hE
 have HO:=Hd ho
 have K0:=Hd k0
 have K1:=Hd k1
 have HN:=Hd hn
 have hl:=Hd (show (Tryz.prog.info? 34).map (·.size)=some cs.length by rw [hx.len];kernel_rfl)
 obtain ⟨aa,fa,ac,fc,vs,hh⟩:=hx.has
 have HC0:=Hd (show cs[0]?=some (.int .i64 15) by rw [← ho];exact hh.op)
 have hnm:=Hd (show x.name.size≤1048576 from Nat.le_trans hh.own.2.1 hN)
 obtain ⟨nm,hnm2⟩:∃ nm,x.name=nm:=⟨_,rfl⟩
 have HNE:=Hd hnm2
 have znm:nm.size≤1048576:=by rw [← hnm2];exact hnm.out
 have HC1:=Hd (show cs[1]?=some (.string nm) by rw [← hnm2];exact hh.name)
 obtain ⟨w1,hw1⟩:∃ w1,w1=w.alloc (.cells cs.toArray 34):=⟨_,rfl⟩
 have HW:=Hd hw1
 have R0:=Hd (show RowT 34 w1 w.heap.size cs by rw [hw1];exact RowT.new w 34 cs)
 have H0:=Hd (show Below w.heap.size w w1 by rw [hw1];exact belowBox w _)
 have HKA:=Hd (show ∀ v,Below w.heap.size w v→B≤v.heap.size∧Env v∧ExprD.At v B N x cs from fun v hv=>⟨Nat.le_trans hB hv.size,HE.out.then hv,HX.out.below (hv.mono hB)⟩)
 have e0:=R0.out.cell HC0.out
 have e1:=R0.out.cell HC1.out
 rw [hw1] at e0 e1
 obtain ⟨s,hs⟩:∃ s,stepT f x=s:=⟨_,rfl⟩
 have HST:=Hd hs
 have HR:=Hd (show s=twoS f x 4 ⟨#[32,111,114,32]⟩ 5 by
  rw [← HST.out]
  unfold stepT
  rw [HO.out]
  simp only [if_true,if_false,Int.reduceEq]
  skip)
 clear hx hE hh ho hnm2 hw1 hs k0 k1 hn
 go_enter Tryz.func70,Tryz.ntmps70
 go_wp2_with ((with_reducible show wpList _ _ _ (⟨some 28,_,_,_,_,_⟩::_) _ _);refine wpList_load_mid rfl 34 _ rfl w.heap.size 0 rfl cs _ (by rw [← HW.out];exact R0.out.range) Tryz.underlying34 rfl hl.out ?_)
 rw [← HW.out]
 refine (two_r f x 4 5 ⟨#[32,111,114,32]⟩ HN.out K0.out K1.out (by decide) _ B N cs hN (HKA.out _ H0.out).1 (HKA.out _ H0.out).2.1 (HKA.out _ H0.out).2.2).mono ?_
 rw [← HR.out]
 rintro e wu ⟨rfl,hb1⟩
 have HU:=Hd (belowThen H0.out hb1)
 clear hb1
 go_wp2_with fail
 go_ret
 exact ⟨by rw [HST.out];rfl,HU.out⟩
set_option maxRecDepth 100000 in
set_option maxHeartbeats 6400000 in
theorem infix_14 (f:ExprD→ByteArray) (x:ExprD) (ho:x.op=14) (hn:x.args.length=2) (k0:KidR f (x.args.getD 0 default)) (k1:KidR f (x.args.getD 1 default))
 (w:World) (B N:Nat) (cs:List Value) (hN:N≤1048576) (hB:B≤w.heap.size) (hE:Env w) (hx:ExprD.At w B N x cs):Calls Tryz.prog 70 #[.agg cs.toArray] w (StrB (stepT f x) w):=by
 have HX:=Hd hx
 have HE:=Hd hE
 have HO:=Hd ho
 have K0:=Hd k0
 have K1:=Hd k1
 have HN:=Hd hn
 have hl:=Hd (show (Tryz.prog.info? 34).map (·.size)=some cs.length by rw [hx.len];kernel_rfl)
 obtain ⟨aa,fa,ac,fc,vs,hh⟩:=hx.has
 have HC0:=Hd (show cs[0]?=some (.int .i64 14) by rw [← ho];exact hh.op)
 have hnm:=Hd (show x.name.size≤1048576 from Nat.le_trans hh.own.2.1 hN)
 obtain ⟨nm,hnm2⟩:∃ nm,x.name=nm:=⟨_,rfl⟩
 have HNE:=Hd hnm2
 have znm:nm.size≤1048576:=by rw [← hnm2];exact hnm.out
 have HC1:=Hd (show cs[1]?=some (.string nm) by rw [← hnm2];exact hh.name)
 obtain ⟨w1,hw1⟩:∃ w1,w1=w.alloc (.cells cs.toArray 34):=⟨_,rfl⟩
 have HW:=Hd hw1
 have R0:=Hd (show RowT 34 w1 w.heap.size cs by rw [hw1];exact RowT.new w 34 cs)
 have H0:=Hd (show Below w.heap.size w w1 by rw [hw1];exact belowBox w _)
 have HKA:=Hd (show ∀ v,Below w.heap.size w v→B≤v.heap.size∧Env v∧ExprD.At v B N x cs from fun v hv=>⟨Nat.le_trans hB hv.size,HE.out.then hv,HX.out.below (hv.mono hB)⟩)
 have e0:=R0.out.cell HC0.out
 have e1:=R0.out.cell HC1.out
 rw [hw1] at e0 e1
 obtain ⟨s,hs⟩:∃ s,stepT f x=s:=⟨_,rfl⟩
 have HST:=Hd hs
 have HR:=Hd (show s=twoS f x 5 ⟨#[32,97,110,100,32]⟩ 6 by
  rw [← HST.out]
  unfold stepT
  rw [HO.out]
  simp only [if_true,if_false,Int.reduceEq]
  skip)
 clear hx hE hh ho hnm2 hw1 hs k0 k1 hn
 go_enter Tryz.func70,Tryz.ntmps70
 go_wp2_with ((with_reducible show wpList _ _ _ (⟨some 32,_,_,_,_,_⟩::_) _ _);refine wpList_load_mid rfl 34 _ rfl w.heap.size 0 rfl cs _ (by rw [← HW.out];exact R0.out.range) Tryz.underlying34 rfl hl.out ?_)
 rw [← HW.out]
 refine (two_r f x 5 6 ⟨#[32,97,110,100,32]⟩ HN.out K0.out K1.out (by decide) _ B N cs hN (HKA.out _ H0.out).1 (HKA.out _ H0.out).2.1 (HKA.out _ H0.out).2.2).mono ?_
 rw [← HR.out]
 rintro e wu ⟨rfl,hb1⟩
 have HU:=Hd (belowThen H0.out hb1)
 clear hb1
 go_wp2_with fail
 go_ret
 exact ⟨by rw [HST.out];rfl,HU.out⟩
set_option maxRecDepth 100000 in
set_option maxHeartbeats 6400000 in
theorem infix_13 (f:ExprD→ByteArray) (x:ExprD) (ho:x.op=13) (hn:x.args.length=2) (k0:KidR f (x.args.getD 0 default)) (k1:KidR f (x.args.getD 1 default))
 (w:World) (B N:Nat) (cs:List Value) (hN:N≤1048576) (hB:B≤w.heap.size) (hE:Env w) (hx:ExprD.At w B N x cs):Calls Tryz.prog 70 #[.agg cs.toArray] w (StrB (stepT f x) w):=by
 have HX:=Hd hx
 have HE:=Hd hE
 have HO:=Hd ho
 have K0:=Hd k0
 have K1:=Hd k1
 have HN:=Hd hn
 have hl:=Hd (show (Tryz.prog.info? 34).map (·.size)=some cs.length by rw [hx.len];kernel_rfl)
 obtain ⟨aa,fa,ac,fc,vs,hh⟩:=hx.has
 have HC0:=Hd (show cs[0]?=some (.int .i64 13) by rw [← ho];exact hh.op)
 have hnm:=Hd (show x.name.size≤1048576 from Nat.le_trans hh.own.2.1 hN)
 obtain ⟨nm,hnm2⟩:∃ nm,x.name=nm:=⟨_,rfl⟩
 have HNE:=Hd hnm2
 have znm:nm.size≤1048576:=by rw [← hnm2];exact hnm.out
 have HC1:=Hd (show cs[1]?=some (.string nm) by rw [← hnm2];exact hh.name)
 obtain ⟨w1,hw1⟩:∃ w1,w1=w.alloc (.cells cs.toArray 34):=⟨_,rfl⟩
 have HW:=Hd hw1
 have R0:=Hd (show RowT 34 w1 w.heap.size cs by rw [hw1];exact RowT.new w 34 cs)
 have H0:=Hd (show Below w.heap.size w w1 by rw [hw1];exact belowBox w _)
 have HKA:=Hd (show ∀ v,Below w.heap.size w v→B≤v.heap.size∧Env v∧ExprD.At v B N x cs from fun v hv=>⟨Nat.le_trans hB hv.size,HE.out.then hv,HX.out.below (hv.mono hB)⟩)
 have e0:=R0.out.cell HC0.out
 have e1:=R0.out.cell HC1.out
 rw [hw1] at e0 e1
 obtain ⟨s,hs⟩:∃ s,stepT f x=s:=⟨_,rfl⟩
 have HST:=Hd hs
 have zo:(⟨#[32]⟩++nm++⟨#[32]⟩:ByteArray).size≤1048600:=by (repeat rw [ByteArray.size_append]);simp only [szl,List.size_toArray,List.length_cons,List.length_nil];omega
 have sc1:(⟨#[32]⟩:ByteArray).size+nm.size≤9223372036854775807:=by simp only [szl,List.size_toArray,List.length_cons,List.length_nil];omega
 have sc2:(⟨#[32]⟩++nm:ByteArray).size+(⟨#[32]⟩:ByteArray).size≤9223372036854775807:=by (repeat rw [ByteArray.size_append]);simp only [szl,List.size_toArray,List.length_cons,List.length_nil];omega
 have HR:=Hd (show s=twoS f x 7 (⟨#[32]⟩++nm++⟨#[32]⟩) 7 by
  rw [← HST.out]
  unfold stepT
  rw [HO.out]
  simp only [if_true,if_false,Int.reduceEq]
  rw [hnm2])
 clear hx hE hh ho hnm2 hw1 hs k0 k1 hn
 go_enter Tryz.func70,Tryz.ntmps70
 go_wp2_with ((with_reducible show wpList _ _ _ (⟨some 36,_,_,_,_,_⟩::_) _ _);refine wpList_load_mid rfl 34 _ rfl w.heap.size 0 rfl cs _ (by rw [← HW.out];exact R0.out.range) Tryz.underlying34 rfl hl.out ?_)
 rw [← HW.out]
 refine (two_r f x 7 7 _ HN.out K0.out K1.out zo _ B N cs hN (HKA.out _ H0.out).1 (HKA.out _ H0.out).2.1 (HKA.out _ H0.out).2.2).mono ?_
 rw [← HR.out]
 rintro e wu ⟨rfl,hb1⟩
 have HU:=Hd (belowThen H0.out hb1)
 clear hb1
 go_wp2_with fail
 go_ret
 exact ⟨by rw [HST.out];rfl,HU.out⟩
set_option maxRecDepth 100000 in
set_option maxHeartbeats 6400000 in
theorem infix_12 (f:ExprD→ByteArray) (x:ExprD) (ho:x.op=12) (hn:x.args.length=2) (k0:KidR f (x.args.getD 0 default)) (k1:KidR f (x.args.getD 1 default))
 (w:World) (B N:Nat) (cs:List Value) (hN:N≤1048576) (hB:B≤w.heap.size) (hE:Env w) (hx:ExprD.At w B N x cs):Calls Tryz.prog 70 #[.agg cs.toArray] w (StrB (stepT f x) w):=by
 have HX:=Hd hx
 have HE:=Hd hE
 have HO:=Hd ho
 have K0:=Hd k0
 have K1:=Hd k1
 have HN:=Hd hn
 have hl:=Hd (show (Tryz.prog.info? 34).map (·.size)=some cs.length by rw [hx.len];kernel_rfl)
 obtain ⟨aa,fa,ac,fc,vs,hh⟩:=hx.has
 have HC0:=Hd (show cs[0]?=some (.int .i64 12) by rw [← ho];exact hh.op)
 have hnm:=Hd (show x.name.size≤1048576 from Nat.le_trans hh.own.2.1 hN)
 obtain ⟨nm,hnm2⟩:∃ nm,x.name=nm:=⟨_,rfl⟩
 have HNE:=Hd hnm2
 have znm:nm.size≤1048576:=by rw [← hnm2];exact hnm.out
 have HC1:=Hd (show cs[1]?=some (.string nm) by rw [← hnm2];exact hh.name)
 obtain ⟨w1,hw1⟩:∃ w1,w1=w.alloc (.cells cs.toArray 34):=⟨_,rfl⟩
 have HW:=Hd hw1
 have R0:=Hd (show RowT 34 w1 w.heap.size cs by rw [hw1];exact RowT.new w 34 cs)
 have H0:=Hd (show Below w.heap.size w w1 by rw [hw1];exact belowBox w _)
 have HKA:=Hd (show ∀ v,Below w.heap.size w v→B≤v.heap.size∧Env v∧ExprD.At v B N x cs from fun v hv=>⟨Nat.le_trans hB hv.size,HE.out.then hv,HX.out.below (hv.mono hB)⟩)
 have e0:=R0.out.cell HC0.out
 have e1:=R0.out.cell HC1.out
 rw [hw1] at e0 e1
 obtain ⟨s,hs⟩:∃ s,stepT f x=s:=⟨_,rfl⟩
 have HST:=Hd hs
 have zo:(⟨#[32]⟩++nm++⟨#[32]⟩:ByteArray).size≤1048600:=by (repeat rw [ByteArray.size_append]);simp only [szl,List.size_toArray,List.length_cons,List.length_nil];omega
 have sc1:(⟨#[32]⟩:ByteArray).size+nm.size≤9223372036854775807:=by simp only [szl,List.size_toArray,List.length_cons,List.length_nil];omega
 have sc2:(⟨#[32]⟩++nm:ByteArray).size+(⟨#[32]⟩:ByteArray).size≤9223372036854775807:=by (repeat rw [ByteArray.size_append]);simp only [szl,List.size_toArray,List.length_cons,List.length_nil];omega
 obtain ⟨lv,hlv⟩:∃ lv,levS x=lv:=⟨_,rfl⟩
 have HLV:=Hd hlv
 have l0:0≤lv:=by rw [← hlv];exact lev_nonneg x
 have l1:lv≤10:=by rw [← hlv];exact lev_le x
 have HR:=Hd (show s=twoS f x lv (⟨#[32]⟩++nm++⟨#[32]⟩) (lv+1) by
  rw [← HST.out]
  unfold stepT
  rw [HO.out]
  simp only [if_true,if_false,Int.reduceEq]
  rw [hnm2,hlv])
 clear hx hE hh ho hnm2 hw1 hs k0 k1 hn
 go_enter Tryz.func70,Tryz.ntmps70
 clear hlv
 go_wp2_with ((with_reducible show wpList _ _ _ (⟨some 44,_,_,_,_,_⟩::_) _ _);refine wpList_load_mid rfl 34 _ rfl w.heap.size 0 rfl cs _ (by rw [← HW.out];exact R0.out.range) Tryz.underlying34 rfl hl.out ?_)
 rw [← HW.out]
 refine (level_r x _ B N cs (by rw [HO.out];decide) (fun h=>absurd (HO.out.symm.trans h) (by decide)) (HKA.out _ H0.out).1 (HKA.out _ H0.out).2.2).mono ?_
 rw [HLV.out]
 rintro e wu ⟨rfl,hb1⟩
 have HU:=Hd (belowThen H0.out hb1)
 have RU:=Hd (R0.out.then hb1)
 have u1:=RU.out.cell HC1.out
 clear hb1
 go_wp2_with ((with_reducible show wpList _ _ _ (⟨some 46,_,_,_,_,_⟩::_) _ _);refine wpList_load_mid rfl 34 _ rfl w.heap.size 0 rfl cs _ RU.out.range Tryz.underlying34 rfl hl.out ?_)
 refine (two_r f x lv (lv+1) _ HN.out K0.out K1.out zo _ B N cs hN (HKA.out _ HU.out).1 (HKA.out _ HU.out).2.1 (HKA.out _ HU.out).2.2).mono ?_
 rw [← HR.out]
 rintro e wv ⟨rfl,hb2⟩
 have HV:=Hd (belowThen HU.out hb2)
 clear hb2
 go_wp2_with fail
 go_ret
 exact ⟨by rw [HST.out];rfl,HV.out⟩
set_option maxRecDepth 100000 in
set_option maxHeartbeats 6400000 in
theorem infix_no_27 (x:ExprD) (ho:x.op=27)
 (w:World) (B N:Nat) (cs:List Value) (hN:N≤1048576) (hB:B≤w.heap.size) (hE:Env w) (hx:ExprD.At w B N x cs):Calls Tryz.prog 70 #[.agg cs.toArray] w (StrB ((⟨#[]⟩:ByteArray)) w):=by
 have HX:=Hd hx
 have HE:=Hd hE
 have HO:=Hd ho
 have hl:=Hd (show (Tryz.prog.info? 34).map (·.size)=some cs.length by rw [hx.len];kernel_rfl)
 obtain ⟨aa,fa,ac,fc,vs,hh⟩:=hx.has
 have HC0:=Hd (show cs[0]?=some (.int .i64 27) by rw [← ho];exact hh.op)
 have hnm:=Hd (show x.name.size≤1048576 from Nat.le_trans hh.own.2.1 hN)
 obtain ⟨nm,hnm2⟩:∃ nm,x.name=nm:=⟨_,rfl⟩
 have HNE:=Hd hnm2
 have znm:nm.size≤1048576:=by rw [← hnm2];exact hnm.out
 have HC1:=Hd (show cs[1]?=some (.string nm) by rw [← hnm2];exact hh.name)
 obtain ⟨w1,hw1⟩:∃ w1,w1=w.alloc (.cells cs.toArray 34):=⟨_,rfl⟩
 have HW:=Hd hw1
 have R0:=Hd (show RowT 34 w1 w.heap.size cs by rw [hw1];exact RowT.new w 34 cs)
 have H0:=Hd (show Below w.heap.size w w1 by rw [hw1];exact belowBox w _)
 have HKA:=Hd (show ∀ v,Below w.heap.size w v→B≤v.heap.size∧Env v∧ExprD.At v B N x cs from fun v hv=>⟨Nat.le_trans hB hv.size,HE.out.then hv,HX.out.below (hv.mono hB)⟩)
 have e0:=R0.out.cell HC0.out
 have e1:=R0.out.cell HC1.out
 rw [hw1] at e0 e1
 obtain ⟨s,hs⟩:∃ s,(⟨#[]⟩:ByteArray)=s:=⟨_,rfl⟩
 have HST:=Hd hs
 clear hx hE hh ho hnm2 hw1 hs
 go_enter Tryz.func70,Tryz.ntmps70
 go_wp2_with fail
 go_ret
 exact ⟨rfl,by rw [← HW.out];exact H0.out⟩
set_option maxRecDepth 100000 in
set_option maxHeartbeats 6400000 in
theorem infix_no_18 (x:ExprD) (ho:x.op=18)
 (w:World) (B N:Nat) (cs:List Value) (hN:N≤1048576) (hB:B≤w.heap.size) (hE:Env w) (hx:ExprD.At w B N x cs):Calls Tryz.prog 70 #[.agg cs.toArray] w (StrB ((⟨#[]⟩:ByteArray)) w):=by
 have HX:=Hd hx
 have HE:=Hd hE
 have HO:=Hd ho
 have hl:=Hd (show (Tryz.prog.info? 34).map (·.size)=some cs.length by rw [hx.len];kernel_rfl)
 obtain ⟨aa,fa,ac,fc,vs,hh⟩:=hx.has
 have HC0:=Hd (show cs[0]?=some (.int .i64 18) by rw [← ho];exact hh.op)
 have hnm:=Hd (show x.name.size≤1048576 from Nat.le_trans hh.own.2.1 hN)
 obtain ⟨nm,hnm2⟩:∃ nm,x.name=nm:=⟨_,rfl⟩
 have HNE:=Hd hnm2
 have znm:nm.size≤1048576:=by rw [← hnm2];exact hnm.out
 have HC1:=Hd (show cs[1]?=some (.string nm) by rw [← hnm2];exact hh.name)
 obtain ⟨w1,hw1⟩:∃ w1,w1=w.alloc (.cells cs.toArray 34):=⟨_,rfl⟩
 have HW:=Hd hw1
 have R0:=Hd (show RowT 34 w1 w.heap.size cs by rw [hw1];exact RowT.new w 34 cs)
 have H0:=Hd (show Below w.heap.size w w1 by rw [hw1];exact belowBox w _)
 have HKA:=Hd (show ∀ v,Below w.heap.size w v→B≤v.heap.size∧Env v∧ExprD.At v B N x cs from fun v hv=>⟨Nat.le_trans hB hv.size,HE.out.then hv,HX.out.below (hv.mono hB)⟩)
 have e0:=R0.out.cell HC0.out
 have e1:=R0.out.cell HC1.out
 rw [hw1] at e0 e1
 obtain ⟨s,hs⟩:∃ s,(⟨#[]⟩:ByteArray)=s:=⟨_,rfl⟩
 have HST:=Hd hs
 clear hx hE hh ho hnm2 hw1 hs
 go_enter Tryz.func70,Tryz.ntmps70
 go_wp2_with fail
 go_ret
 exact ⟨rfl,by rw [← HW.out];exact H0.out⟩
set_option maxRecDepth 100000 in
set_option maxHeartbeats 6400000 in
theorem infix_no_19 (x:ExprD) (ho:x.op=19)
 (w:World) (B N:Nat) (cs:List Value) (hN:N≤1048576) (hB:B≤w.heap.size) (hE:Env w) (hx:ExprD.At w B N x cs):Calls Tryz.prog 70 #[.agg cs.toArray] w (StrB ((⟨#[]⟩:ByteArray)) w):=by
 have HX:=Hd hx
 have HE:=Hd hE
 have HO:=Hd ho
 have hl:=Hd (show (Tryz.prog.info? 34).map (·.size)=some cs.length by rw [hx.len];kernel_rfl)
 obtain ⟨aa,fa,ac,fc,vs,hh⟩:=hx.has
 have HC0:=Hd (show cs[0]?=some (.int .i64 19) by rw [← ho];exact hh.op)
 have hnm:=Hd (show x.name.size≤1048576 from Nat.le_trans hh.own.2.1 hN)
 obtain ⟨nm,hnm2⟩:∃ nm,x.name=nm:=⟨_,rfl⟩
 have HNE:=Hd hnm2
 have znm:nm.size≤1048576:=by rw [← hnm2];exact hnm.out
 have HC1:=Hd (show cs[1]?=some (.string nm) by rw [← hnm2];exact hh.name)
 obtain ⟨w1,hw1⟩:∃ w1,w1=w.alloc (.cells cs.toArray 34):=⟨_,rfl⟩
 have HW:=Hd hw1
 have R0:=Hd (show RowT 34 w1 w.heap.size cs by rw [hw1];exact RowT.new w 34 cs)
 have H0:=Hd (show Below w.heap.size w w1 by rw [hw1];exact belowBox w _)
 have HKA:=Hd (show ∀ v,Below w.heap.size w v→B≤v.heap.size∧Env v∧ExprD.At v B N x cs from fun v hv=>⟨Nat.le_trans hB hv.size,HE.out.then hv,HX.out.below (hv.mono hB)⟩)
 have e0:=R0.out.cell HC0.out
 have e1:=R0.out.cell HC1.out
 rw [hw1] at e0 e1
 obtain ⟨s,hs⟩:∃ s,(⟨#[]⟩:ByteArray)=s:=⟨_,rfl⟩
 have HST:=Hd hs
 clear hx hE hh ho hnm2 hw1 hs
 go_enter Tryz.func70,Tryz.ntmps70
 go_wp2_with fail
 go_ret
 exact ⟨rfl,by rw [← HW.out];exact H0.out⟩
set_option maxRecDepth 100000 in
set_option maxHeartbeats 6400000 in
theorem infix_no_20 (x:ExprD) (ho:x.op=20)
 (w:World) (B N:Nat) (cs:List Value) (hN:N≤1048576) (hB:B≤w.heap.size) (hE:Env w) (hx:ExprD.At w B N x cs):Calls Tryz.prog 70 #[.agg cs.toArray] w (StrB ((⟨#[]⟩:ByteArray)) w):=by
 have HX:=Hd hx
 have HE:=Hd hE
 have HO:=Hd ho
 have hl:=Hd (show (Tryz.prog.info? 34).map (·.size)=some cs.length by rw [hx.len];kernel_rfl)
 obtain ⟨aa,fa,ac,fc,vs,hh⟩:=hx.has
 have HC0:=Hd (show cs[0]?=some (.int .i64 20) by rw [← ho];exact hh.op)
 have hnm:=Hd (show x.name.size≤1048576 from Nat.le_trans hh.own.2.1 hN)
 obtain ⟨nm,hnm2⟩:∃ nm,x.name=nm:=⟨_,rfl⟩
 have HNE:=Hd hnm2
 have znm:nm.size≤1048576:=by rw [← hnm2];exact hnm.out
 have HC1:=Hd (show cs[1]?=some (.string nm) by rw [← hnm2];exact hh.name)
 obtain ⟨w1,hw1⟩:∃ w1,w1=w.alloc (.cells cs.toArray 34):=⟨_,rfl⟩
 have HW:=Hd hw1
 have R0:=Hd (show RowT 34 w1 w.heap.size cs by rw [hw1];exact RowT.new w 34 cs)
 have H0:=Hd (show Below w.heap.size w w1 by rw [hw1];exact belowBox w _)
 have HKA:=Hd (show ∀ v,Below w.heap.size w v→B≤v.heap.size∧Env v∧ExprD.At v B N x cs from fun v hv=>⟨Nat.le_trans hB hv.size,HE.out.then hv,HX.out.below (hv.mono hB)⟩)
 have e0:=R0.out.cell HC0.out
 have e1:=R0.out.cell HC1.out
 rw [hw1] at e0 e1
 obtain ⟨s,hs⟩:∃ s,(⟨#[]⟩:ByteArray)=s:=⟨_,rfl⟩
 have HST:=Hd hs
 clear hx hE hh ho hnm2 hw1 hs
 go_enter Tryz.func70,Tryz.ntmps70
 go_wp2_with fail
 go_ret
 exact ⟨rfl,by rw [← HW.out];exact H0.out⟩
set_option maxRecDepth 100000 in
set_option maxHeartbeats 6400000 in
theorem infix_no_22 (x:ExprD) (ho:x.op=22)
 (w:World) (B N:Nat) (cs:List Value) (hN:N≤1048576) (hB:B≤w.heap.size) (hE:Env w) (hx:ExprD.At w B N x cs):Calls Tryz.prog 70 #[.agg cs.toArray] w (StrB ((⟨#[]⟩:ByteArray)) w):=by
 have HX:=Hd hx
 have HE:=Hd hE
 have HO:=Hd ho
 have hl:=Hd (show (Tryz.prog.info? 34).map (·.size)=some cs.length by rw [hx.len];kernel_rfl)
 obtain ⟨aa,fa,ac,fc,vs,hh⟩:=hx.has
 have HC0:=Hd (show cs[0]?=some (.int .i64 22) by rw [← ho];exact hh.op)
 have hnm:=Hd (show x.name.size≤1048576 from Nat.le_trans hh.own.2.1 hN)
 obtain ⟨nm,hnm2⟩:∃ nm,x.name=nm:=⟨_,rfl⟩
 have HNE:=Hd hnm2
 have znm:nm.size≤1048576:=by rw [← hnm2];exact hnm.out
 have HC1:=Hd (show cs[1]?=some (.string nm) by rw [← hnm2];exact hh.name)
 obtain ⟨w1,hw1⟩:∃ w1,w1=w.alloc (.cells cs.toArray 34):=⟨_,rfl⟩
 have HW:=Hd hw1
 have R0:=Hd (show RowT 34 w1 w.heap.size cs by rw [hw1];exact RowT.new w 34 cs)
 have H0:=Hd (show Below w.heap.size w w1 by rw [hw1];exact belowBox w _)
 have HKA:=Hd (show ∀ v,Below w.heap.size w v→B≤v.heap.size∧Env v∧ExprD.At v B N x cs from fun v hv=>⟨Nat.le_trans hB hv.size,HE.out.then hv,HX.out.below (hv.mono hB)⟩)
 have e0:=R0.out.cell HC0.out
 have e1:=R0.out.cell HC1.out
 rw [hw1] at e0 e1
 obtain ⟨s,hs⟩:∃ s,(⟨#[]⟩:ByteArray)=s:=⟨_,rfl⟩
 have HST:=Hd hs
 clear hx hE hh ho hnm2 hw1 hs
 go_enter Tryz.func70,Tryz.ntmps70
 go_wp2_with fail
 go_ret
 exact ⟨rfl,by rw [← HW.out];exact H0.out⟩
set_option maxRecDepth 100000 in
set_option maxHeartbeats 6400000 in
theorem infix_no_26 (x:ExprD) (ho:x.op=26)
 (w:World) (B N:Nat) (cs:List Value) (hN:N≤1048576) (hB:B≤w.heap.size) (hE:Env w) (hx:ExprD.At w B N x cs):Calls Tryz.prog 70 #[.agg cs.toArray] w (StrB ((⟨#[]⟩:ByteArray)) w):=by
 have HX:=Hd hx
 have HE:=Hd hE
 have HO:=Hd ho
 have hl:=Hd (show (Tryz.prog.info? 34).map (·.size)=some cs.length by rw [hx.len];kernel_rfl)
 obtain ⟨aa,fa,ac,fc,vs,hh⟩:=hx.has
 have HC0:=Hd (show cs[0]?=some (.int .i64 26) by rw [← ho];exact hh.op)
 have hnm:=Hd (show x.name.size≤1048576 from Nat.le_trans hh.own.2.1 hN)
 obtain ⟨nm,hnm2⟩:∃ nm,x.name=nm:=⟨_,rfl⟩
 have HNE:=Hd hnm2
 have znm:nm.size≤1048576:=by rw [← hnm2];exact hnm.out
 have HC1:=Hd (show cs[1]?=some (.string nm) by rw [← hnm2];exact hh.name)
 obtain ⟨w1,hw1⟩:∃ w1,w1=w.alloc (.cells cs.toArray 34):=⟨_,rfl⟩
 have HW:=Hd hw1
 have R0:=Hd (show RowT 34 w1 w.heap.size cs by rw [hw1];exact RowT.new w 34 cs)
 have H0:=Hd (show Below w.heap.size w w1 by rw [hw1];exact belowBox w _)
 have HKA:=Hd (show ∀ v,Below w.heap.size w v→B≤v.heap.size∧Env v∧ExprD.At v B N x cs from fun v hv=>⟨Nat.le_trans hB hv.size,HE.out.then hv,HX.out.below (hv.mono hB)⟩)
 have e0:=R0.out.cell HC0.out
 have e1:=R0.out.cell HC1.out
 rw [hw1] at e0 e1
 obtain ⟨s,hs⟩:∃ s,(⟨#[]⟩:ByteArray)=s:=⟨_,rfl⟩
 have HST:=Hd hs
 clear hx hE hh ho hnm2 hw1 hs
 go_enter Tryz.func70,Tryz.ntmps70
 go_wp2_with fail
 go_ret
 exact ⟨rfl,by rw [← HW.out];exact H0.out⟩
set_option maxRecDepth 100000 in
set_option maxHeartbeats 6400000 in
theorem infix_no_17 (x:ExprD) (ho:x.op=17)
 (w:World) (B N:Nat) (cs:List Value) (hN:N≤1048576) (hB:B≤w.heap.size) (hE:Env w) (hx:ExprD.At w B N x cs):Calls Tryz.prog 70 #[.agg cs.toArray] w (StrB ((⟨#[]⟩:ByteArray)) w):=by
 have HX:=Hd hx
 have HE:=Hd hE
 have HO:=Hd ho
 have hl:=Hd (show (Tryz.prog.info? 34).map (·.size)=some cs.length by rw [hx.len];kernel_rfl)
 obtain ⟨aa,fa,ac,fc,vs,hh⟩:=hx.has
 have HC0:=Hd (show cs[0]?=some (.int .i64 17) by rw [← ho];exact hh.op)
 have hnm:=Hd (show x.name.size≤1048576 from Nat.le_trans hh.own.2.1 hN)
 obtain ⟨nm,hnm2⟩:∃ nm,x.name=nm:=⟨_,rfl⟩
 have HNE:=Hd hnm2
 have znm:nm.size≤1048576:=by rw [← hnm2];exact hnm.out
 have HC1:=Hd (show cs[1]?=some (.string nm) by rw [← hnm2];exact hh.name)
 obtain ⟨w1,hw1⟩:∃ w1,w1=w.alloc (.cells cs.toArray 34):=⟨_,rfl⟩
 have HW:=Hd hw1
 have R0:=Hd (show RowT 34 w1 w.heap.size cs by rw [hw1];exact RowT.new w 34 cs)
 have H0:=Hd (show Below w.heap.size w w1 by rw [hw1];exact belowBox w _)
 have HKA:=Hd (show ∀ v,Below w.heap.size w v→B≤v.heap.size∧Env v∧ExprD.At v B N x cs from fun v hv=>⟨Nat.le_trans hB hv.size,HE.out.then hv,HX.out.below (hv.mono hB)⟩)
 have e0:=R0.out.cell HC0.out
 have e1:=R0.out.cell HC1.out
 rw [hw1] at e0 e1
 obtain ⟨s,hs⟩:∃ s,(⟨#[]⟩:ByteArray)=s:=⟨_,rfl⟩
 have HST:=Hd hs
 clear hx hE hh ho hnm2 hw1 hs
 go_enter Tryz.func70,Tryz.ntmps70
 go_wp2_with fail
 go_ret
 exact ⟨rfl,by rw [← HW.out];exact H0.out⟩
set_option maxRecDepth 100000 in
set_option maxHeartbeats 6400000 in
theorem infix_no_23 (x:ExprD) (ho:x.op=23)
 (w:World) (B N:Nat) (cs:List Value) (hN:N≤1048576) (hB:B≤w.heap.size) (hE:Env w) (hx:ExprD.At w B N x cs):Calls Tryz.prog 70 #[.agg cs.toArray] w (StrB ((⟨#[]⟩:ByteArray)) w):=by
 have HX:=Hd hx
 have HE:=Hd hE
 have HO:=Hd ho
 have hl:=Hd (show (Tryz.prog.info? 34).map (·.size)=some cs.length by rw [hx.len];kernel_rfl)
 obtain ⟨aa,fa,ac,fc,vs,hh⟩:=hx.has
 have HC0:=Hd (show cs[0]?=some (.int .i64 23) by rw [← ho];exact hh.op)
 have hnm:=Hd (show x.name.size≤1048576 from Nat.le_trans hh.own.2.1 hN)
 obtain ⟨nm,hnm2⟩:∃ nm,x.name=nm:=⟨_,rfl⟩
 have HNE:=Hd hnm2
 have znm:nm.size≤1048576:=by rw [← hnm2];exact hnm.out
 have HC1:=Hd (show cs[1]?=some (.string nm) by rw [← hnm2];exact hh.name)
 obtain ⟨w1,hw1⟩:∃ w1,w1=w.alloc (.cells cs.toArray 34):=⟨_,rfl⟩
 have HW:=Hd hw1
 have R0:=Hd (show RowT 34 w1 w.heap.size cs by rw [hw1];exact RowT.new w 34 cs)
 have H0:=Hd (show Below w.heap.size w w1 by rw [hw1];exact belowBox w _)
 have HKA:=Hd (show ∀ v,Below w.heap.size w v→B≤v.heap.size∧Env v∧ExprD.At v B N x cs from fun v hv=>⟨Nat.le_trans hB hv.size,HE.out.then hv,HX.out.below (hv.mono hB)⟩)
 have e0:=R0.out.cell HC0.out
 have e1:=R0.out.cell HC1.out
 rw [hw1] at e0 e1
 obtain ⟨s,hs⟩:∃ s,(⟨#[]⟩:ByteArray)=s:=⟨_,rfl⟩
 have HST:=Hd hs
 clear hx hE hh ho hnm2 hw1 hs
 go_enter Tryz.func70,Tryz.ntmps70
 go_wp2_with fail
 go_ret
 exact ⟨rfl,by rw [← HW.out];exact H0.out⟩
end Go.Proofs.YtiefeajappjnbaaGreatDoor
