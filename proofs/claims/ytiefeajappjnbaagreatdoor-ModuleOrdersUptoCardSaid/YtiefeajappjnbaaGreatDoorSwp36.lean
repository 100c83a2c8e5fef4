/- qparse.show: the branches without loops (printed by genshp36.py). -/
import Derived.Test.YtiefeajappjnbaaGreatDoorGA
import Derived.Test.YtiefeajappjnbaaGreatDoorMH
import Derived.Test.YtiefeajappjnbaaGreatDoorBin36
namespace Go.Proofs.YtiefeajappjnbaaGreatDoor
open Go.RowKit
theorem empty_mid (a b:ByteArray):a++(⟨#[]⟩:ByteArray)++b=a++b:=by
 have h:a++(⟨#[]⟩:ByteArray)=a:=by
  apply ByteArray.ext
  simp
 rw [h]
set_option maxRecDepth 100000 in
set_option maxHeartbeats 6400000 in
theorem show_1 (f:ExprD→ByteArray) (x:ExprD) (ho:x.op=1)
 (w:World) (B N:Nat) (cs:List Value) (hN:N≤1048576) (hB:B≤w.heap.size) (hE:Env w) (hx:ExprD.At w B N x cs):Calls Tryz.prog 22 #[.agg cs.toArray] w (StrB (stepT f x) w):=by
 have HX:=Hd hx
 have HE:=Hd hE
 have HO:=Hd ho
 have hl:=Hd (show (Tryz.prog.info? 34).map (·.size)=some cs.length by rw [hx.len];kernel_rfl)
 obtain ⟨aa,fa,ac,fc,vs,hh⟩:=hx.has
 have HC0:=Hd (show cs[0]?=some (.int .i64 1) by rw [← ho];exact hh.op)
 have hnm:=Hd (show x.name.size≤1048576 from Nat.le_trans hh.own.2.1 hN)
 obtain ⟨nm,hnm2⟩:∃ nm,x.name=nm:=⟨_,rfl⟩
 have HNE:=Hd hnm2
 have znm:nm.size≤1048576:=by rw [← hnm2];exact hnm.out
 have HC1:=Hd (show cs[1]?=some (.string nm) by rw [← hnm2];exact hh.name)
 obtain ⟨w1,hw1⟩:∃ w1,w1=w.alloc (.cells cs.toArray 34):=⟨_,rfl⟩
 have HW:=Hd hw1
 have R0:=Hd (show RowT 34 w1 w.heap.size cs by rw [hw1];exact RowT.new w 34 cs)
 have H0:=Hd (show Below w.heap.size w w1 by rw [hw1];exact belowBox w _)
 have HKA:=Hd (show ∀ v,Below w.heap.size w v→B≤v.heap.size∧Env v∧ExprD.At v B N x cs from fun v hv=>⟨Nat.le_trans hB hv.size,HE.out.then hv,HX.out.below (hv.mono hB)⟩)
 have e0:=R0.out.cell HC0.out
 have e1:=R0.out.cell HC1.out
 rw [hw1] at e0 e1
 obtain ⟨s,hs⟩:∃ s,stepT f x=s:=⟨_,rfl⟩
 have HST:=Hd hs
 have HR:=Hd (show s=(⟨#[46]⟩:ByteArray) by
  rw [← HST.out]
  unfold stepT
  rw [HO.out]
  simp only [if_true,if_false,Int.reduceEq]
  skip)
 clear hx hE hh ho hnm2 hw1 hs
 go_enter Tryz.func22,Tryz.ntmps22
 go_wp2_with fail
 go_ret
 exact ⟨by rw [HST.out,HR.out];rfl,(by rw [← HW.out];exact H0.out)⟩
set_option maxRecDepth 100000 in
set_option maxHeartbeats 6400000 in
theorem show_2 (f:ExprD→ByteArray) (x:ExprD) (ho:x.op=2)
 (w:World) (B N:Nat) (cs:List Value) (hN:N≤1048576) (hB:B≤w.heap.size) (hE:Env w) (hx:ExprD.At w B N x cs):Calls Tryz.prog 22 #[.agg cs.toArray] w (StrB (stepT f x) w):=by
 have HX:=Hd hx
 have HE:=Hd hE
 have HO:=Hd ho
 have hl:=Hd (show (Tryz.prog.info? 34).map (·.size)=some cs.length by rw [hx.len];kernel_rfl)
 obtain ⟨aa,fa,ac,fc,vs,hh⟩:=hx.has
 have HC0:=Hd (show cs[0]?=some (.int .i64 2) by rw [← ho];exact hh.op)
 have hnm:=Hd (show x.name.size≤1048576 from Nat.le_trans hh.own.2.1 hN)
 obtain ⟨nm,hnm2⟩:∃ nm,x.name=nm:=⟨_,rfl⟩
 have HNE:=Hd hnm2
 have znm:nm.size≤1048576:=by rw [← hnm2];exact hnm.out
 have HC1:=Hd (show cs[1]?=some (.string nm) by rw [← hnm2];exact hh.name)
 obtain ⟨w1,hw1⟩:∃ w1,w1=w.alloc (.cells cs.toArray 34):=⟨_,rfl⟩
 have HW:=Hd hw1
 have R0:=Hd (show RowT 34 w1 w.heap.size cs by rw [hw1];exact RowT.new w 34 cs)
 have H0:=Hd (show Below w.heap.size w w1 by rw [hw1];exact belowBox w _)
 have HKA:=Hd (show ∀ v,Below w.heap.size w v→B≤v.heap.size∧Env v∧ExprD.At v B N x cs from fun v hv=>⟨Nat.le_trans hB hv.size,HE.out.then hv,HX.out.below (hv.mono hB)⟩)
 have e0:=R0.out.cell HC0.out
 have e1:=R0.out.cell HC1.out
 rw [hw1] at e0 e1
 obtain ⟨s,hs⟩:∃ s,stepT f x=s:=⟨_,rfl⟩
 have HST:=Hd hs
 have HR:=Hd (show s=(⟨#[46,46]⟩:ByteArray) by
  rw [← HST.out]
  unfold stepT
  rw [HO.out]
  simp only [if_true,if_false,Int.reduceEq]
  skip)
 clear hx hE hh ho hnm2 hw1 hs
 go_enter Tryz.func22,Tryz.ntmps22
 go_wp2_with fail
 go_ret
 exact ⟨by rw [HST.out,HR.out];rfl,(by rw [← HW.out];exact H0.out)⟩
set_option maxRecDepth 100000 in
set_option maxHeartbeats 6400000 in
theorem show_4 (f:ExprD→ByteArray) (x:ExprD) (ho:x.op=4)
 (w:World) (B N:Nat) (cs:List Value) (hN:N≤1048576) (hB:B≤w.heap.size) (hE:Env w) (hx:ExprD.At w B N x cs):Calls Tryz.prog 22 #[.agg cs.toArray] w (StrB (stepT f x) w):=by
 have HX:=Hd hx
 have HE:=Hd hE
 have HO:=Hd ho
 have hl:=Hd (show (Tryz.prog.info? 34).map (·.size)=some cs.length by rw [hx.len];kernel_rfl)
 obtain ⟨aa,fa,ac,fc,vs,hh⟩:=hx.has
 have HC0:=Hd (show cs[0]?=some (.int .i64 4) by rw [← ho];exact hh.op)
 have hnm:=Hd (show x.name.size≤1048576 from Nat.le_trans hh.own.2.1 hN)
 obtain ⟨nm,hnm2⟩:∃ nm,x.name=nm:=⟨_,rfl⟩
 have HNE:=Hd hnm2
 have znm:nm.size≤1048576:=by rw [← hnm2];exact hnm.out
 have HC1:=Hd (show cs[1]?=some (.string nm) by rw [← hnm2];exact hh.name)
 obtain ⟨w1,hw1⟩:∃ w1,w1=w.alloc (.cells cs.toArray 34):=⟨_,rfl⟩
 have HW:=Hd hw1
 have R0:=Hd (show RowT 34 w1 w.heap.size cs by rw [hw1];exact RowT.new w 34 cs)
 have H0:=Hd (show Below w.heap.size w w1 by rw [hw1];exact belowBox w _)
 have HKA:=Hd (show ∀ v,Below w.heap.size w v→B≤v.heap.size∧Env v∧ExprD.At v B N x cs from fun v hv=>⟨Nat.le_trans hB hv.size,HE.out.then hv,HX.out.below (hv.mono hB)⟩)
 have e0:=R0.out.cell HC0.out
 have e1:=R0.out.cell HC1.out
 rw [hw1] at e0 e1
 obtain ⟨s,hs⟩:∃ s,stepT f x=s:=⟨_,rfl⟩
 have HST:=Hd hs
 have HR:=Hd (show s=⟨#[36]⟩++nm by
  rw [← HST.out]
  unfold stepT
  rw [HO.out]
  simp only [if_true,if_false,Int.reduceEq]
  rw [hnm2])
 clear hx hE hh ho hnm2 hw1 hs
 go_enter Tryz.func22,Tryz.ntmps22
 have sc1:(⟨#[36]⟩:ByteArray).size+(nm:ByteArray).size≤9223372036854775807:=by simp only [szl,List.size_toArray,List.length_cons,List.length_nil];omega
 go_wp2_with fail
 go_ret
 exact ⟨by rw [HST.out,HR.out];rfl,(by rw [← HW.out];exact H0.out)⟩
set_option maxRecDepth 100000 in
set_option maxHeartbeats 6400000 in
theorem show_27 (f:ExprD→ByteArray) (x:ExprD) (ho:x.op=27)
 (w:World) (B N:Nat) (cs:List Value) (hN:N≤1048576) (hB:B≤w.heap.size) (hE:Env w) (hx:ExprD.At w B N x cs):Calls Tryz.prog 22 #[.agg cs.toArray] w (StrB (stepT f x) w):=by
 have HX:=Hd hx
 have HE:=Hd hE
 have HO:=Hd ho
 have hl:=Hd (show (Tryz.prog.info? 34).map (·.size)=some cs.length by rw [hx.len];kernel_rfl)
 obtain ⟨aa,fa,ac,fc,vs,hh⟩:=hx.has
 have HC0:=Hd (show cs[0]?=some (.int .i64 27) by rw [← ho];exact hh.op)
 have hnm:=Hd (show x.name.size≤1048576 from Nat.le_trans hh.own.2.1 hN)
 obtain ⟨nm,hnm2⟩:∃ nm,x.name=nm:=⟨_,rfl⟩
 have HNE:=Hd hnm2
 have znm:nm.size≤1048576:=by rw [← hnm2];exact hnm.out
 have HC1:=Hd (show cs[1]?=some (.string nm) by rw [← hnm2];exact hh.name)
 obtain ⟨w1,hw1⟩:∃ w1,w1=w.alloc (.cells cs.toArray 34):=⟨_,rfl⟩
 have HW:=Hd hw1
 have R0:=Hd (show RowT 34 w1 w.heap.size cs by rw [hw1];exact RowT.new w 34 cs)
 have H0:=Hd (show Below w.heap.size w w1 by rw [hw1];exact belowBox w _)
 have HKA:=Hd (show ∀ v,Below w.heap.size w v→B≤v.heap.size∧Env v∧ExprD.At v B N x cs from fun v hv=>⟨Nat.le_trans hB hv.size,HE.out.then hv,HX.out.below (hv.mono hB)⟩)
 have e0:=R0.out.cell HC0.out
 have e1:=R0.out.cell HC1.out
 rw [hw1] at e0 e1
 obtain ⟨s,hs⟩:∃ s,stepT f x=s:=⟨_,rfl⟩
 have HST:=Hd hs
 have HR:=Hd (show s=⟨#[98,114,101,97,107,32,36]⟩++nm by
  rw [← HST.out]
  unfold stepT
  rw [HO.out]
  simp only [if_true,if_false,Int.reduceEq]
  rw [hnm2])
 clear hx hE hh ho hnm2 hw1 hs
 go_enter Tryz.func22,Tryz.ntmps22
 have sc1:(⟨#[98,114,101,97,107,32,36]⟩:ByteArray).size+(nm:ByteArray).size≤9223372036854775807:=by simp only [szl,List.size_toArray,List.length_cons,List.length_nil];omega
 go_wp2_with fail
 go_ret
 exact ⟨by rw [HST.out,HR.out];rfl,(by rw [← HW.out];exact H0.out)⟩
set_option maxRecDepth 100000 in
set_option maxHeartbeats 6400000 in
theorem show_11 (f:ExprD→ByteArray) (x:ExprD) (ho:x.op=11) (hn:x.args.length=1) (k0:KidP f (x.args.getD 0 default))
 (w:World) (B N:Nat) (cs:List Value) (hN:N≤1048576) (hB:B≤w.heap.size) (hE:Env w) (hx:ExprD.At w B N x cs):Calls Tryz.prog 22 #[.agg cs.toArray] w (StrB (stepT f x) w):=by
 have HX:=Hd hx
 have HE:=Hd hE
 have HO:=Hd ho
 have K0:=Hd k0
 have hl:=Hd (show (Tryz.prog.info? 34).map (·.size)=some cs.length by rw [hx.len];kernel_rfl)
 obtain ⟨aa,fa,ac,fc,vs,hh⟩:=hx.has
 have HC0:=Hd (show cs[0]?=some (.int .i64 11) by rw [← ho];exact hh.op)
 have hnm:=Hd (show x.name.size≤1048576 from Nat.le_trans hh.own.2.1 hN)
 obtain ⟨nm,hnm2⟩:∃ nm,x.name=nm:=⟨_,rfl⟩
 have HNE:=Hd hnm2
 have znm:nm.size≤1048576:=by rw [← hnm2];exact hnm.out
 have HC1:=Hd (show cs[1]?=some (.string nm) by rw [← hnm2];exact hh.name)
 obtain ⟨b,o,haa,hb,hget⟩:=args_at hh (n:=1) hn (by decide)
 have HC15:=Hd (show cs[15]?=some (.slice (some ⟨b,o,none⟩) 1 ac) by rw [hh.args,hn,haa])
 obtain ⟨a0,r0,q0⟩:=hget 0 (by decide)
 have HR0:=Hd (show CellsAt w b (o) a0 by simpa using r0)
 have HQ0:=Hd q0
 have hl0:=Hd (show (Tryz.prog.info? 34).map (·.size)=some a0.length by rw [q0.len];kernel_rfl)
 obtain ⟨w1,hw1⟩:∃ w1,w1=w.alloc (.cells cs.toArray 34):=⟨_,rfl⟩
 have HW:=Hd hw1
 have R0:=Hd (show RowT 34 w1 w.heap.size cs by rw [hw1];exact RowT.new w 34 cs)
 have H0:=Hd (show Below w.heap.size w w1 by rw [hw1];exact belowBox w _)
 have HKA:=Hd (show ∀ v,Below w.heap.size w v→B≤v.heap.size∧Env v∧ExprD.At v B N (x.args.getD 0 default) a0∧ExprD.At v B N x cs from fun v hv=>⟨Nat.le_trans hB hv.size,HE.out.then hv,HQ0.out.below (hv.mono hB),HX.out.below (hv.mono hB)⟩)
 have e0:=R0.out.cell HC0.out
 have e1:=R0.out.cell HC1.out
 have e15:=R0.out.cell HC15.out
 rw [hw1] at e0 e1 e15
 obtain ⟨s,hs⟩:∃ s,stepT f x=s:=⟨_,rfl⟩
 have HST:=Hd hs
 obtain ⟨s0,hs0⟩:∃ z,atS f 9 (x.args.getD 0 default)=z:=⟨_,rfl⟩
 have HS0:=Hd hs0
 have zs0:s0.size≤274877906946:=by rw [← hs0];exact Nat.le_trans (atS_le f _ _) (Nat.add_le_add_right K0.out.size 2)
 have HR:=Hd (show s=⟨#[45]⟩++s0 by
  rw [← HST.out]
  unfold stepT
  rw [HO.out]
  simp only [if_true,if_false,Int.reduceEq]
  rw [hs0])
 clear hx hE hh ho hnm2 hw1 hs hn haa hget k0 hs0
 go_enter Tryz.func22,Tryz.ntmps22
 go_wp2_with ((with_reducible show wpList _ _ _ (⟨some 41,_,_,_,_,_⟩::_) _ _);refine wpList_load_mid rfl 34 _ rfl b (o) rfl a0 _ (by rw [← HW.out];exact (HR0.out.below (H0.out.mono hB) hb).range) Tryz.underlying34 rfl hl0.out ?_)
 rw [← HW.out]
 refine (arg_p f _ K0.out 9 _ B N a0 hN (HKA.out _ H0.out).1 (HKA.out _ H0.out).2.1 (HKA.out _ H0.out).2.2.1).mono ?_
 rw [HS0.out]
 rintro e wu ⟨rfl,hb1⟩
 have Hwu:=Hd (belowThen H0.out hb1)
 have sc1:(⟨#[45]⟩:ByteArray).size+(s0:ByteArray).size≤9223372036854775807:=by simp only [szl,List.size_toArray,List.length_cons,List.length_nil];omega
 go_wp2_with fail
 go_ret
 exact ⟨by rw [HST.out,HR.out];rfl,Hwu.out⟩
set_option maxRecDepth 100000 in
set_option maxHeartbeats 6400000 in
theorem show_24 (f:ExprD→ByteArray) (x:ExprD) (ho:x.op=24) (hn:x.args.length=1) (k0:(x.args.getD 0 default).op≠30→KidP f (x.args.getD 0 default))
 (w:World) (B N:Nat) (cs:List Value) (hN:N≤1048576) (hB:B≤w.heap.size) (hE:Env w) (hx:ExprD.At w B N x cs):Calls Tryz.prog 22 #[.agg cs.toArray] w (StrB (stepT f x) w):=by
 have HX:=Hd hx
 have HE:=Hd hE
 have HO:=Hd ho
 have K0:=Hd k0
 have hl:=Hd (show (Tryz.prog.info? 34).map (·.size)=some cs.length by rw [hx.len];kernel_rfl)
 obtain ⟨aa,fa,ac,fc,vs,hh⟩:=hx.has
 have HC0:=Hd (show cs[0]?=some (.int .i64 24) by rw [← ho];exact hh.op)
 have hnm:=Hd (show x.name.size≤1048576 from Nat.le_trans hh.own.2.1 hN)
 obtain ⟨nm,hnm2⟩:∃ nm,x.name=nm:=⟨_,rfl⟩
 have HNE:=Hd hnm2
 have znm:nm.size≤1048576:=by rw [← hnm2];exact hnm.out
 have HC1:=Hd (show cs[1]?=some (.string nm) by rw [← hnm2];exact hh.name)
 obtain ⟨b,o,haa,hb,hget⟩:=args_at hh (n:=1) hn (by decide)
 have HC15:=Hd (show cs[15]?=some (.slice (some ⟨b,o,none⟩) 1 ac) by rw [hh.args,hn,haa])
 obtain ⟨a0,r0,q0⟩:=hget 0 (by decide)
 have HR0:=Hd (show CellsAt w b (o) a0 by simpa using r0)
 have HQ0:=Hd q0
 have hl0:=Hd (show (Tryz.prog.info? 34).map (·.size)=some a0.length by rw [q0.len];kernel_rfl)
 obtain ⟨w1,hw1⟩:∃ w1,w1=w.alloc (.cells cs.toArray 34):=⟨_,rfl⟩
 have HW:=Hd hw1
 have R0:=Hd (show RowT 34 w1 w.heap.size cs by rw [hw1];exact RowT.new w 34 cs)
 have H0:=Hd (show Below w.heap.size w w1 by rw [hw1];exact belowBox w _)
 have HKA:=Hd (show ∀ v,Below w.heap.size w v→B≤v.heap.size∧Env v∧ExprD.At v B N (x.args.getD 0 default) a0∧ExprD.At v B N x cs from fun v hv=>⟨Nat.le_trans hB hv.size,HE.out.then hv,HQ0.out.below (hv.mono hB),HX.out.below (hv.mono hB)⟩)
 have e0:=R0.out.cell HC0.out
 have e1:=R0.out.cell HC1.out
 have e15:=R0.out.cell HC15.out
 rw [hw1] at e0 e1 e15
 obtain ⟨s,hs⟩:∃ s,stepT f x=s:=⟨_,rfl⟩
 have HST:=Hd hs
 obtain ⟨s0,hs0⟩:∃ z,presS f (x.args.getD 0 default)=z:=⟨_,rfl⟩
 have HS0:=Hd hs0
 have zs0:s0.size≤274877906946:=by rw [← hs0];exact Nat.le_trans (pres_le K0.out) (by decide)
 have HR:=Hd (show s=⟨#[91]⟩++s0++⟨#[93]⟩ by
  rw [← HST.out]
  unfold stepT
  rw [HO.out]
  simp only [if_true,if_false,Int.reduceEq]
  rw [hs0])
 clear hx hE hh ho hnm2 hw1 hs hn haa hget k0 hs0
 go_enter Tryz.func22,Tryz.ntmps22
 go_wp2_with ((with_reducible show wpList _ _ _ (⟨some 199,_,_,_,_,_⟩::_) _ _);refine wpList_load_mid rfl 34 _ rfl b (o) rfl a0 _ (by rw [← HW.out];exact (HR0.out.below (H0.out.mono hB) hb).range) Tryz.underlying34 rfl hl0.out ?_)
 rw [← HW.out]
 refine (present_p f _ K0.out _ B N a0 hN (HKA.out _ H0.out).1 (HKA.out _ H0.out).2.1 (HKA.out _ H0.out).2.2.1).mono ?_
 rw [HS0.out]
 rintro e wu ⟨rfl,hb1⟩
 have Hwu:=Hd (belowThen H0.out hb1)
 have sc1:(⟨#[91]⟩:ByteArray).size+(s0:ByteArray).size≤9223372036854775807:=by simp only [szl,List.size_toArray,List.length_cons,List.length_nil];omega
 have sc2:(⟨#[91]⟩++s0:ByteArray).size+(⟨#[93]⟩:ByteArray).size≤9223372036854775807:=by (repeat rw [ByteArray.size_append]);simp only [szl,List.size_toArray,List.length_cons,List.length_nil];omega
 go_wp2_with fail
 go_ret
 exact ⟨by rw [HST.out,HR.out];rfl,Hwu.out⟩
set_option maxRecDepth 100000 in
set_option maxHeartbeats 6400000 in
theorem show_26 (f:ExprD→ByteArray) (x:ExprD) (ho:x.op=26) (hn:x.args.length=1) (k0:KidP f (x.args.getD 0 default))
 (w:World) (B N:Nat) (cs:List Value) (hN:N≤1048576) (hB:B≤w.heap.size) (hE:Env w) (hx:ExprD.At w B N x cs):Calls Tryz.prog 22 #[.agg cs.toArray] w (StrB (stepT f x) w):=by
 have HX:=Hd hx
 have HE:=Hd hE
 have HO:=Hd ho
 have K0:=Hd k0
 have hl:=Hd (show (Tryz.prog.info? 34).map (·.size)=some cs.length by rw [hx.len];kernel_rfl)
 obtain ⟨aa,fa,ac,fc,vs,hh⟩:=hx.has
 have HC0:=Hd (show cs[0]?=some (.int .i64 26) by rw [← ho];exact hh.op)
 have hnm:=Hd (show x.name.size≤1048576 from Nat.le_trans hh.own.2.1 hN)
 obtain ⟨nm,hnm2⟩:∃ nm,x.name=nm:=⟨_,rfl⟩
 have HNE:=Hd hnm2
 have znm:nm.size≤1048576:=by rw [← hnm2];exact hnm.out
 have HC1:=Hd (show cs[1]?=some (.string nm) by rw [← hnm2];exact hh.name)
 obtain ⟨b,o,haa,hb,hget⟩:=args_at hh (n:=1) hn (by decide)
 have HC15:=Hd (show cs[15]?=some (.slice (some ⟨b,o,none⟩) 1 ac) by rw [hh.args,hn,haa])
 obtain ⟨a0,r0,q0⟩:=hget 0 (by decide)
 have HR0:=Hd (show CellsAt w b (o) a0 by simpa using r0)
 have HQ0:=Hd q0
 have hl0:=Hd (show (Tryz.prog.info? 34).map (·.size)=some a0.length by rw [q0.len];kernel_rfl)
 obtain ⟨w1,hw1⟩:∃ w1,w1=w.alloc (.cells cs.toArray 34):=⟨_,rfl⟩
 have HW:=Hd hw1
 have R0:=Hd (show RowT 34 w1 w.heap.size cs by rw [hw1];exact RowT.new w 34 cs)
 have H0:=Hd (show Below w.heap.size w w1 by rw [hw1];exact belowBox w _)
 have HKA:=Hd (show ∀ v,Below w.heap.size w v→B≤v.heap.size∧Env v∧ExprD.At v B N (x.args.getD 0 default) a0∧ExprD.At v B N x cs from fun v hv=>⟨Nat.le_trans hB hv.size,HE.out.then hv,HQ0.out.below (hv.mono hB),HX.out.below (hv.mono hB)⟩)
 have e0:=R0.out.cell HC0.out
 have e1:=R0.out.cell HC1.out
 have e15:=R0.out.cell HC15.out
 rw [hw1] at e0 e1 e15
 obtain ⟨s,hs⟩:∃ s,stepT f x=s:=⟨_,rfl⟩
 have HST:=Hd hs
 obtain ⟨s0,hs0⟩:∃ z,f (x.args.getD 0 default)=z:=⟨_,rfl⟩
 have HS0:=Hd hs0
 have zs0:s0.size≤274877906946:=by rw [← hs0];exact Nat.le_trans K0.out.size (by decide)
 have HR:=Hd (show s=⟨#[108,97,98,101,108,32,36]⟩++nm++⟨#[32,124,32]⟩++s0 by
  rw [← HST.out]
  unfold stepT
  rw [HO.out]
  simp only [if_true,if_false,Int.reduceEq]
  rw [hs0,hnm2])
 clear hx hE hh ho hnm2 hw1 hs hn haa hget k0 hs0
 go_enter Tryz.func22,Tryz.ntmps22
 go_wp2_with fail
 rw [← HW.out]
 refine wp_region_held_drew (S:=fun u=>Below w1.heap.size w1 u) (by kernel_rfl) (drewU w1) (fun hHeld=>?_)
 refine' tk 0 (.pointer (some ⟨w.heap.size,1,none⟩)) rfl rfl (.inl ⟨by rfl,fun u hu=>(by go_simp)⟩) hHeld ?_
 simp only [sq1,sq0]
 refine' tk 1 (.string nm) rfl rfl (.inl ⟨by rfl,fun u hu=>(by have hc:=(R0.out.then hu).cell HC1.out;go_simp)⟩) hHeld ?_
 simp only [sq1,sq0]
 refine' tk 2 (.string (⟨#[108,97,98,101,108,32,36]⟩++nm)) rfl rfl (.inl ⟨by rfl,fun u hu=>(by go_simp;all_goals omega)⟩) hHeld ?_
 simp only [sq1,sq0]
 refine' tk 3 (.string ((⟨#[108,97,98,101,108,32,36]⟩++nm)++⟨#[32,124,32]⟩)) rfl rfl (.inl ⟨by rfl,fun u hu=>(by go_simp;all_goals omega)⟩) hHeld ?_
 simp only [sq1,sq0]
 refine' tk 4 (.pointer (some ⟨w.heap.size,15,none⟩)) rfl rfl (.inl ⟨by rfl,fun u hu=>(by go_simp)⟩) hHeld ?_
 simp only [sq1,sq0]
 refine' tk 5 (.slice (some ⟨b,o,none⟩) 1 ac) rfl rfl (.inl ⟨by rfl,fun u hu=>(by have hc:=(R0.out.then hu).cell HC15.out;go_simp)⟩) hHeld ?_
 simp only [sq1,sq0]
 refine' tk 6 (.pointer (some ⟨b,o,none⟩)) rfl rfl (.inl ⟨by rfl,fun u hu=>(by go_simp)⟩) hHeld ?_
 simp only [sq1,sq0]
 refine' tk 7 _ rfl rfl (yieldsIf_load_mid (by kernel_rfl) 34 _ rfl (b) (o) rfl a0 _ (fun u hu=>(HR0.out.below ((belowThen H0.out hu).mono hB) hb).range) Tryz.underlying34 rfl hl0.out) hHeld ?_
 simp only [sq1,sq0]
 refine rd1 8 rfl (fun K hK=>?_)
 go_simp
 refine (arg_p f _ K0.out 0 _ B N a0 hN (HKA.out _ (belowThen H0.out hHeld)).1 (HKA.out _ (belowThen H0.out hHeld)).2.1 (HKA.out _ (belowThen H0.out hHeld)).2.2.1).mono ?_
 rw [atS_0,HS0.out]
 rintro e uC1 ⟨rfl,hbC⟩
 refine hK.out _ _ (belowThen hHeld hbC) (fun hHeld1=>?_)
 clear hK K hbC hHeld
 have hHeld:=hHeld1
 clear hHeld1
 refine' tk 9 (.string (((⟨#[108,97,98,101,108,32,36]⟩++nm)++⟨#[32,124,32]⟩)++s0)) rfl rfl (.inl ⟨by rfl,fun u hu=>(by go_simp;all_goals omega)⟩) hHeld ?_
 simp only [sq1,sq0]
 refine rd1 10 rfl (fun K hK=>?_)
 go_simp
 refine hK.out _ _ hHeld (fun hHeldx=>?_)
 clear hK K hHeldx
 refine wpAnyH_done (by kernel_rfl) ?_ _
 go_wp2_with fail
 go_ret
 exact ⟨by rw [HST.out,HR.out];rfl,belowThen H0.out hHeld⟩
set_option maxRecDepth 100000 in
set_option maxHeartbeats 6400000 in
theorem show_22 (f:ExprD→ByteArray) (x:ExprD) (ho:x.op=22) (hn:x.args.length=2) (k0:KidP f (x.args.getD 0 default)) (k1:KidP f (x.args.getD 1 default))
 (w:World) (B N:Nat) (cs:List Value) (hN:N≤1048576) (hB:B≤w.heap.size) (hE:Env w) (hx:ExprD.At w B N x cs):Calls Tryz.prog 22 #[.agg cs.toArray] w (StrB (stepT f x) w):=by
 have HX:=Hd hx
 have HE:=Hd hE
 have HO:=Hd ho
 have K0:=Hd k0
 have K1:=Hd k1
 have hl:=Hd (show (Tryz.prog.info? 34).map (·.size)=some cs.length by rw [hx.len];kernel_rfl)
 obtain ⟨aa,fa,ac,fc,vs,hh⟩:=hx.has
 have HC0:=Hd (show cs[0]?=some (.int .i64 22) by rw [← ho];exact hh.op)
 have hnm:=Hd (show x.name.size≤1048576 from Nat.le_trans hh.own.2.1 hN)
 obtain ⟨nm,hnm2⟩:∃ nm,x.name=nm:=⟨_,rfl⟩
 have HNE:=Hd hnm2
 have znm:nm.size≤1048576:=by rw [← hnm2];exact hnm.out
 have HC1:=Hd (show cs[1]?=some (.string nm) by rw [← hnm2];exact hh.name)
 obtain ⟨b,o,haa,hb,hget⟩:=args_at hh (n:=2) hn (by decide)
 have HC15:=Hd (show cs[15]?=some (.slice (some ⟨b,o,none⟩) 2 ac) by rw [hh.args,hn,haa])
 obtain ⟨a0,r0,q0⟩:=hget 0 (by decide)
 have HR0:=Hd (show CellsAt w b (o) a0 by simpa using r0)
 have HQ0:=Hd q0
 have hl0:=Hd (show (Tryz.prog.info? 34).map (·.size)=some a0.length by rw [q0.len];kernel_rfl)
 obtain ⟨a1,r1,q1⟩:=hget 1 (by decide)
 have HR1:=Hd (show CellsAt w b (o+17) a1 by simpa using r1)
 have HQ1:=Hd q1
 have hl1:=Hd (show (Tryz.prog.info? 34).map (·.size)=some a1.length by rw [q1.len];kernel_rfl)
 obtain ⟨w1,hw1⟩:∃ w1,w1=w.alloc (.cells cs.toArray 34):=⟨_,rfl⟩
 have HW:=Hd hw1
 have R0:=Hd (show RowT 34 w1 w.heap.size cs by rw [hw1];exact RowT.new w 34 cs)
 have H0:=Hd (show Below w.heap.size w w1 by rw [hw1];exact belowBox w _)
 have HKA:=Hd (show ∀ v,Below w.heap.size w v→B≤v.heap.size∧Env v∧ExprD.At v B N (x.args.getD 0 default) a0∧ExprD.At v B N (x.args.getD 1 default) a1∧ExprD.At v B N x cs from fun v hv=>⟨Nat.le_trans hB hv.size,HE.out.then hv,HQ0.out.below (hv.mono hB),HQ1.out.below (hv.mono hB),HX.out.below (hv.mono hB)⟩)
 have e0:=R0.out.cell HC0.out
 have e1:=R0.out.cell HC1.out
 have e15:=R0.out.cell HC15.out
 rw [hw1] at e0 e1 e15
 obtain ⟨s,hs⟩:∃ s,stepT f x=s:=⟨_,rfl⟩
 have HST:=Hd hs
 obtain ⟨s0,hs0⟩:∃ z,atS f 10 (x.args.getD 0 default)=z:=⟨_,rfl⟩
 have HS0:=Hd hs0
 have zs0:s0.size≤274877906946:=by rw [← hs0];exact Nat.le_trans (atS_le f _ _) (Nat.add_le_add_right K0.out.size 2)
 obtain ⟨s1,hs1⟩:∃ z,f (x.args.getD 1 default)=z:=⟨_,rfl⟩
 have HS1:=Hd hs1
 have zs1:s1.size≤274877906946:=by rw [← hs1];exact Nat.le_trans K1.out.size (by decide)
 have HR:=Hd (show s=s0++⟨#[32,97,115,32,36]⟩++nm++⟨#[32,124,32]⟩++s1 by
  rw [← HST.out]
  unfold stepT
  rw [HO.out]
  simp only [if_true,if_false,Int.reduceEq]
  rw [hs0,hs1,hnm2])
 clear hx hE hh ho hnm2 hw1 hs hn haa hget k0 k1 hs0 hs1
 go_enter Tryz.func22,Tryz.ntmps22
 go_wp2_with fail
 rw [← HW.out]
 refine wp_region_held_drew (S:=fun u=>Below w1.heap.size w1 u) (by kernel_rfl) (drewU w1) (fun hHeld=>?_)
 refine' tk 0 (.pointer (some ⟨w.heap.size,15,none⟩)) rfl rfl (.inl ⟨by rfl,fun u hu=>(by go_simp)⟩) hHeld ?_
 simp only [sq1,sq0]
 refine' tk 1 (.slice (some ⟨b,o,none⟩) 2 ac) rfl rfl (.inl ⟨by rfl,fun u hu=>(by have hc:=(R0.out.then hu).cell HC15.out;go_simp)⟩) hHeld ?_
 simp only [sq1,sq0]
 refine' tk 2 (.pointer (some ⟨b,o,none⟩)) rfl rfl (.inl ⟨by rfl,fun u hu=>(by go_simp)⟩) hHeld ?_
 simp only [sq1,sq0]
 refine' tk 3 _ rfl rfl (yieldsIf_load_mid (by kernel_rfl) 34 _ rfl (b) (o) rfl a0 _ (fun u hu=>(HR0.out.below ((belowThen H0.out hu).mono hB) hb).range) Tryz.underlying34 rfl hl0.out) hHeld ?_
 simp only [sq1,sq0]
 refine' tk 6 (.pointer (some ⟨w.heap.size,1,none⟩)) rfl rfl (.inl ⟨by rfl,fun u hu=>(by go_simp)⟩) hHeld ?_
 simp only [sq1,sq0]
 refine' tk 7 (.string nm) rfl rfl (.inl ⟨by rfl,fun u hu=>(by have hc:=(R0.out.then hu).cell HC1.out;go_simp)⟩) hHeld ?_
 simp only [sq1,sq0]
 refine' tk 10 (.pointer (some ⟨w.heap.size,15,none⟩)) rfl rfl (.inl ⟨by rfl,fun u hu=>(by go_simp)⟩) hHeld ?_
 simp only [sq1,sq0]
 refine' tk 11 (.slice (some ⟨b,o,none⟩) 2 ac) rfl rfl (.inl ⟨by rfl,fun u hu=>(by have hc:=(R0.out.then hu).cell HC15.out;go_simp)⟩) hHeld ?_
 simp only [sq1,sq0]
 refine' tk 12 (.pointer (some ⟨b,o+17,none⟩)) rfl rfl (.inl ⟨by rfl,fun u hu=>(by go_simp)⟩) hHeld ?_
 simp only [sq1,sq0]
 refine' tk 13 _ rfl rfl (yieldsIf_load_mid (by kernel_rfl) 34 _ rfl (b) (o+17) rfl a1 _ (fun u hu=>(HR1.out.below ((belowThen H0.out hu).mono hB) hb).range) Tryz.underlying34 rfl hl1.out) hHeld ?_
 simp only [sq1,sq0]
 refine rd1 4 rfl (fun K hK=>?_)
 go_simp
 refine (arg_p f _ K0.out 10 _ B N a0 hN (HKA.out _ (belowThen H0.out hHeld)).1 (HKA.out _ (belowThen H0.out hHeld)).2.1 (HKA.out _ (belowThen H0.out hHeld)).2.2.1).mono ?_
 rw [HS0.out]
 rintro e uC1 ⟨rfl,hbC⟩
 refine hK.out _ _ (belowThen hHeld hbC) (fun hHeld1=>?_)
 clear hK K hbC hHeld
 have hHeld:=hHeld1
 clear hHeld1
 refine' tk 5 (.string (s0++⟨#[32,97,115,32,36]⟩)) rfl rfl (.inl ⟨by rfl,fun u hu=>(by go_simp;all_goals omega)⟩) hHeld ?_
 simp only [sq1,sq0]
 refine' tk 8 (.string ((s0++⟨#[32,97,115,32,36]⟩)++nm)) rfl rfl (.inl ⟨by rfl,fun u hu=>(by go_simp;all_goals omega)⟩) hHeld ?_
 simp only [sq1,sq0]
 refine' tk 9 (.string (((s0++⟨#[32,97,115,32,36]⟩)++nm)++⟨#[32,124,32]⟩)) rfl rfl (.inl ⟨by rfl,fun u hu=>(by go_simp;all_goals omega)⟩) hHeld ?_
 simp only [sq1,sq0]
 refine rd1 14 rfl (fun K hK=>?_)
 go_simp
 refine (arg_p f _ K1.out 0 _ B N a1 hN (HKA.out _ (belowThen H0.out hHeld)).1 (HKA.out _ (belowThen H0.out hHeld)).2.1 (HKA.out _ (belowThen H0.out hHeld)).2.2.2.1).mono ?_
 rw [atS_0,HS1.out]
 rintro e uC2 ⟨rfl,hbC⟩
 refine hK.out _ _ (belowThen hHeld hbC) (fun hHeld2=>?_)
 clear hK K hbC hHeld
 have hHeld:=hHeld2
 clear hHeld2
 refine' tk 15 (.string ((((s0++⟨#[32,97,115,32,36]⟩)++nm)++⟨#[32,124,32]⟩)++s1)) rfl rfl (.inl ⟨by rfl,fun u hu=>(by go_simp;all_goals omega)⟩) hHeld ?_
 simp only [sq1,sq0]
 refine rd1 16 rfl (fun K hK=>?_)
 go_simp
 refine hK.out _ _ hHeld (fun hHeldx=>?_)
 clear hK K hHeldx
 refine wpAnyH_done (by kernel_rfl) ?_ _
 go_wp2_with fail
 go_ret
 exact ⟨by rw [HST.out,HR.out];rfl,belowThen H0.out hHeld⟩
set_option maxRecDepth 100000 in
set_option maxHeartbeats 6400000 in
theorem show_17_n (f:ExprD→ByteArray) (x:ExprD) (ho:x.op=17) (hn:x.args.length=2) (k0:KidP f (x.args.getD 0 default)) (hi:(x.args.getD 1 default).op=30)
 (w:World) (B N:Nat) (cs:List Value) (hN:N≤1048576) (hB:B≤w.heap.size) (hE:Env w) (hx:ExprD.At w B N x cs):Calls Tryz.prog 22 #[.agg cs.toArray] w (StrB (stepT f x) w):=by
 have HX:=Hd hx
 have HE:=Hd hE
 have HO:=Hd ho
 have K0:=Hd k0
 have HI:=Hd hi
 have hl:=Hd (show (Tryz.prog.info? 34).map (·.size)=some cs.length by rw [hx.len];kernel_rfl)
 obtain ⟨aa,fa,ac,fc,vs,hh⟩:=hx.has
 have HC0:=Hd (show cs[0]?=some (.int .i64 17) by rw [← ho];exact hh.op)
 have hnm:=Hd (show x.name.size≤1048576 from Nat.le_trans hh.own.2.1 hN)
 obtain ⟨nm,hnm2⟩:∃ nm,x.name=nm:=⟨_,rfl⟩
 have HNE:=Hd hnm2
 have znm:nm.size≤1048576:=by rw [← hnm2];exact hnm.out
 have HC1:=Hd (show cs[1]?=some (.string nm) by rw [← hnm2];exact hh.name)
 obtain ⟨b,o,haa,hb,hget⟩:=args_at hh (n:=2) hn (by decide)
 have HC15:=Hd (show cs[15]?=some (.slice (some ⟨b,o,none⟩) 2 ac) by rw [hh.args,hn,haa])
 obtain ⟨a0,r0,q0⟩:=hget 0 (by decide)
 have HR0:=Hd (show CellsAt w b (o) a0 by simpa using r0)
 have HQ0:=Hd q0
 have hl0:=Hd (show (Tryz.prog.info? 34).map (·.size)=some a0.length by rw [q0.len];kernel_rfl)
 obtain ⟨a1,r1,q1⟩:=hget 1 (by decide)
 have HR1:=Hd (show CellsAt w b (o+17) a1 by simpa using r1)
 have HQ1:=Hd q1
 have hl1:=Hd (show (Tryz.prog.info? 34).map (·.size)=some a1.length by rw [q1.len];kernel_rfl)
 obtain ⟨w1,hw1⟩:∃ w1,w1=w.alloc (.cells cs.toArray 34):=⟨_,rfl⟩
 have HW:=Hd hw1
 have R0:=Hd (show RowT 34 w1 w.heap.size cs by rw [hw1];exact RowT.new w 34 cs)
 have H0:=Hd (show Below w.heap.size w w1 by rw [hw1];exact belowBox w _)
 have HKA:=Hd (show ∀ v,Below w.heap.size w v→B≤v.heap.size∧Env v∧ExprD.At v B N (x.args.getD 0 default) a0∧ExprD.At v B N (x.args.getD 1 default) a1∧ExprD.At v B N x cs from fun v hv=>⟨Nat.le_trans hB hv.size,HE.out.then hv,HQ0.out.below (hv.mono hB),HQ1.out.below (hv.mono hB),HX.out.below (hv.mono hB)⟩)
 have e0:=R0.out.cell HC0.out
 have e1:=R0.out.cell HC1.out
 have e15:=R0.out.cell HC15.out
 obtain ⟨_,_,_,_,_,g1⟩:=q1.has
 obtain ⟨p1,hp1⟩:∃ p,(x.args.getD 1 default).op=p:=⟨_,rfl⟩
 have HP1:=Hd (show a1[0]?=some (.int .i64 p1) by rw [← hp1];exact g1.op)
 have q9:=((HR1.out.below (H0.out.mono hB) hb).get0' HP1.out)
 rw [show p1=30 by rw [← hp1];exact hi,hw1] at q9
 rw [hw1] at e0 e1 e15
 obtain ⟨s,hs⟩:∃ s,stepT f x=s:=⟨_,rfl⟩
 have HST:=Hd hs
 obtain ⟨s0,hs0⟩:∃ z,atS f 10 (x.args.getD 0 default)=z:=⟨_,rfl⟩
 have HS0:=Hd hs0
 have zs0:s0.size≤274877906946:=by rw [← hs0];exact Nat.le_trans (atS_le f _ _) (Nat.add_le_add_right K0.out.size 2)
 have HR:=Hd (show s=s0++⟨#[63]⟩ by
  rw [← HST.out]
  unfold stepT
  rw [HO.out]
  simp only [if_true,if_false,Int.reduceEq]
  rw [hs0,if_pos hi])
 clear hx hE hh ho hnm2 hw1 hs hn haa hget k0 hs0 hi hp1 g1 q1 r1
 go_enter Tryz.func22,Tryz.ntmps22
 go_wp2_with ((with_reducible show wpList _ _ _ (⟨some 55,_,_,_,_,_⟩::_) _ _);refine wpList_load_mid rfl 34 _ rfl b (o) rfl a0 _ (by rw [← HW.out];exact (HR0.out.below (H0.out.mono hB) hb).range) Tryz.underlying34 rfl hl0.out ?_)
 rw [← HW.out]
 refine (arg_p f _ K0.out 10 _ B N a0 hN (HKA.out _ H0.out).1 (HKA.out _ H0.out).2.1 (HKA.out _ H0.out).2.2.1).mono ?_
 rw [HS0.out]
 rintro e wu ⟨rfl,hb1⟩
 have Hwu:=Hd (belowThen H0.out hb1)
 have sc1:(s0:ByteArray).size+(⟨#[63]⟩:ByteArray).size≤9223372036854775807:=by simp only [szl,List.size_toArray,List.length_cons,List.length_nil];omega
 go_wp2_with fail
 go_ret
 exact ⟨by rw [HST.out,HR.out];rfl,Hwu.out⟩
set_option maxRecDepth 100000 in
set_option maxHeartbeats 6400000 in
theorem show_17_c (f:ExprD→ByteArray) (x:ExprD) (ho:x.op=17) (hn:x.args.length=2) (k0:KidP f (x.args.getD 0 default)) (k1:KidP f (x.args.getD 1 default)) (hi:(x.args.getD 1 default).op≠30)
 (w:World) (B N:Nat) (cs:List Value) (hN:N≤1048576) (hB:B≤w.heap.size) (hE:Env w) (hx:ExprD.At w B N x cs):Calls Tryz.prog 22 #[.agg cs.toArray] w (StrB (stepT f x) w):=by
 have HX:=Hd hx
 have HE:=Hd hE
 have HO:=Hd ho
 have K0:=Hd k0
 have K1:=Hd k1
 have HI:=Hd hi
 have hl:=Hd (show (Tryz.prog.info? 34).map (·.size)=some cs.length by rw [hx.len];kernel_rfl)
 obtain ⟨aa,fa,ac,fc,vs,hh⟩:=hx.has
 have HC0:=Hd (show cs[0]?=some (.int .i64 17) by rw [← ho];exact hh.op)
 have hnm:=Hd (show x.name.size≤1048576 from Nat.le_trans hh.own.2.1 hN)
 obtain ⟨nm,hnm2⟩:∃ nm,x.name=nm:=⟨_,rfl⟩
 have HNE:=Hd hnm2
 have znm:nm.size≤1048576:=by rw [← hnm2];exact hnm.out
 have HC1:=Hd (show cs[1]?=some (.string nm) by rw [← hnm2];exact hh.name)
 obtain ⟨b,o,haa,hb,hget⟩:=args_at hh (n:=2) hn (by decide)
 have HC15:=Hd (show cs[15]?=some (.slice (some ⟨b,o,none⟩) 2 ac) by rw [hh.args,hn,haa])
 obtain ⟨a0,r0,q0⟩:=hget 0 (by decide)
 have HR0:=Hd (show CellsAt w b (o) a0 by simpa using r0)
 have HQ0:=Hd q0
 have hl0:=Hd (show (Tryz.prog.info? 34).map (·.size)=some a0.length by rw [q0.len];kernel_rfl)
 obtain ⟨a1,r1,q1⟩:=hget 1 (by decide)
 have HR1:=Hd (show CellsAt w b (o+17) a1 by simpa using r1)
 have HQ1:=Hd q1
 have hl1:=Hd (show (Tryz.prog.info? 34).map (·.size)=some a1.length by rw [q1.len];kernel_rfl)
 obtain ⟨w1,hw1⟩:∃ w1,w1=w.alloc (.cells cs.toArray 34):=⟨_,rfl⟩
 have HW:=Hd hw1
 have R0:=Hd (show RowT 34 w1 w.heap.size cs by rw [hw1];exact RowT.new w 34 cs)
 have H0:=Hd (show Below w.heap.size w w1 by rw [hw1];exact belowBox w _)
 have HKA:=Hd (show ∀ v,Below w.heap.size w v→B≤v.heap.size∧Env v∧ExprD.At v B N (x.args.getD 0 default) a0∧ExprD.At v B N (x.args.getD 1 default) a1∧ExprD.At v B N x cs from fun v hv=>⟨Nat.le_trans hB hv.size,HE.out.then hv,HQ0.out.below (hv.mono hB),HQ1.out.below (hv.mono hB),HX.out.below (hv.mono hB)⟩)
 have e0:=R0.out.cell HC0.out
 have e1:=R0.out.cell HC1.out
 have e15:=R0.out.cell HC15.out
 obtain ⟨_,_,_,_,_,g1⟩:=q1.has
 obtain ⟨p1,hp1⟩:∃ p,(x.args.getD 1 default).op=p:=⟨_,rfl⟩
 have HP1:=Hd (show a1[0]?=some (.int .i64 p1) by rw [← hp1];exact g1.op)
 have q9:=((HR1.out.below (H0.out.mono hB) hb).get0' HP1.out)
 have n30:(p1==30)=false:=by rw [← hp1];simpa using hi
 rw [hw1] at q9
 rw [hw1] at e0 e1 e15
 obtain ⟨s,hs⟩:∃ s,stepT f x=s:=⟨_,rfl⟩
 have HST:=Hd hs
 obtain ⟨s0,hs0⟩:∃ z,atS f 10 (x.args.getD 0 default)=z:=⟨_,rfl⟩
 have HS0:=Hd hs0
 have zs0:s0.size≤274877906946:=by rw [← hs0];exact Nat.le_trans (atS_le f _ _) (Nat.add_le_add_right K0.out.size 2)
 obtain ⟨s1,hs1⟩:∃ z,atS f 10 (x.args.getD 1 default)=z:=⟨_,rfl⟩
 have HS1:=Hd hs1
 have zs1:s1.size≤274877906946:=by rw [← hs1];exact Nat.le_trans (atS_le f _ _) (Nat.add_le_add_right K1.out.size 2)
 have HR:=Hd (show s=⟨#[116,114,121,32]⟩++s0++⟨#[32,99,97,116,99,104,32]⟩++s1 by
  rw [← HST.out]
  unfold stepT
  rw [HO.out]
  simp only [if_true,if_false,Int.reduceEq]
  rw [hs0,hs1,if_neg hi])
 clear hx hE hh ho hnm2 hw1 hs hn haa hget k0 k1 hs0 hs1 hi hp1 g1 q1 r1
 go_enter Tryz.func22,Tryz.ntmps22
 go_wp2_with fail
 rw [← HW.out]
 refine wp_region_held_drew (S:=fun u=>Below w1.heap.size w1 u) (by kernel_rfl) (drewU w1) (fun hHeld=>?_)
 refine' tk 0 (.pointer (some ⟨w.heap.size,15,none⟩)) rfl rfl (.inl ⟨by rfl,fun u hu=>(by go_simp)⟩) hHeld ?_
 simp only [sq1,sq0]
 refine' tk 1 (.slice (some ⟨b,o,none⟩) 2 ac) rfl rfl (.inl ⟨by rfl,fun u hu=>(by have hc:=(R0.out.then hu).cell HC15.out;go_simp)⟩) hHeld ?_
 simp only [sq1,sq0]
 refine' tk 2 (.pointer (some ⟨b,o,none⟩)) rfl rfl (.inl ⟨by rfl,fun u hu=>(by go_simp)⟩) hHeld ?_
 simp only [sq1,sq0]
 refine' tk 3 _ rfl rfl (yieldsIf_load_mid (by kernel_rfl) 34 _ rfl (b) (o) rfl a0 _ (fun u hu=>(HR0.out.below ((belowThen H0.out hu).mono hB) hb).range) Tryz.underlying34 rfl hl0.out) hHeld ?_
 simp only [sq1,sq0]
 refine' tk 7 (.pointer (some ⟨w.heap.size,15,none⟩)) rfl rfl (.inl ⟨by rfl,fun u hu=>(by go_simp)⟩) hHeld ?_
 simp only [sq1,sq0]
 refine' tk 8 (.slice (some ⟨b,o,none⟩) 2 ac) rfl rfl (.inl ⟨by rfl,fun u hu=>(by have hc:=(R0.out.then hu).cell HC15.out;go_simp)⟩) hHeld ?_
 simp only [sq1,sq0]
 refine' tk 9 (.pointer (some ⟨b,o+17,none⟩)) rfl rfl (.inl ⟨by rfl,fun u hu=>(by go_simp)⟩) hHeld ?_
 simp only [sq1,sq0]
 refine' tk 10 _ rfl rfl (yieldsIf_load_mid (by kernel_rfl) 34 _ rfl (b) (o+17) rfl a1 _ (fun u hu=>(HR1.out.below ((belowThen H0.out hu).mono hB) hb).range) Tryz.underlying34 rfl hl1.out) hHeld ?_
 simp only [sq1,sq0]
 refine rd1 4 rfl (fun K hK=>?_)
 go_simp
 refine (arg_p f _ K0.out 10 _ B N a0 hN (HKA.out _ (belowThen H0.out hHeld)).1 (HKA.out _ (belowThen H0.out hHeld)).2.1 (HKA.out _ (belowThen H0.out hHeld)).2.2.1).mono ?_
 rw [HS0.out]
 rintro e uC1 ⟨rfl,hbC⟩
 refine hK.out _ _ (belowThen hHeld hbC) (fun hHeld1=>?_)
 clear hK K hbC hHeld
 have hHeld:=hHeld1
 clear hHeld1
 refine' tk 5 (.string (⟨#[116,114,121,32]⟩++s0)) rfl rfl (.inl ⟨by rfl,fun u hu=>(by go_simp;all_goals omega)⟩) hHeld ?_
 simp only [sq1,sq0]
 refine' tk 6 (.string ((⟨#[116,114,121,32]⟩++s0)++⟨#[32,99,97,116,99,104,32]⟩)) rfl rfl (.inl ⟨by rfl,fun u hu=>(by go_simp;all_goals omega)⟩) hHeld ?_
 simp only [sq1,sq0]
 refine rd1 11 rfl (fun K hK=>?_)
 go_simp
 refine (arg_p f _ K1.out 10 _ B N a1 hN (HKA.out _ (belowThen H0.out hHeld)).1 (HKA.out _ (belowThen H0.out hHeld)).2.1 (HKA.out _ (belowThen H0.out hHeld)).2.2.2.1).mono ?_
 rw [HS1.out]
 rintro e uC2 ⟨rfl,hbC⟩
 refine hK.out _ _ (belowThen hHeld hbC) (fun hHeld2=>?_)
 clear hK K hbC hHeld
 have hHeld:=hHeld2
 clear hHeld2
 refine' tk 12 (.string (((⟨#[116,114,121,32]⟩++s0)++⟨#[32,99,97,116,99,104,32]⟩)++s1)) rfl rfl (.inl ⟨by rfl,fun u hu=>(by go_simp;all_goals omega)⟩) hHeld ?_
 simp only [sq1,sq0]
 refine rd1 13 rfl (fun K hK=>?_)
 go_simp
 refine hK.out _ _ hHeld (fun hHeldx=>?_)
 clear hK K hHeldx
 refine wpAnyH_done (by kernel_rfl) ?_ _
 go_wp2_with fail
 go_ret
 exact ⟨by rw [HST.out,HR.out];rfl,belowThen H0.out hHeld⟩
set_option maxRecDepth 100000 in
set_option maxHeartbeats 6400000 in
theorem show_18_n (f:ExprD→ByteArray) (x:ExprD) (ho:x.op=18) (hn:x.args.length=3) (k0:KidP f (x.args.getD 0 default)) (k1:KidP f (x.args.getD 1 default)) (hi:(x.args.getD 2 default).op=30)
 (w:World) (B N:Nat) (cs:List Value) (hN:N≤1048576) (hB:B≤w.heap.size) (hE:Env w) (hx:ExprD.At w B N x cs):Calls Tryz.prog 22 #[.agg cs.toArray] w (StrB (stepT f x) w):=by
 have HX:=Hd hx
 have HE:=Hd hE
 have HO:=Hd ho
 have K0:=Hd k0
 have K1:=Hd k1
 have HI:=Hd hi
 have hl:=Hd (show (Tryz.prog.info? 34).map (·.size)=some cs.length by rw [hx.len];kernel_rfl)
 obtain ⟨aa,fa,ac,fc,vs,hh⟩:=hx.has
 have HC0:=Hd (show cs[0]?=some (.int .i64 18) by rw [← ho];exact hh.op)
 have hnm:=Hd (show x.name.size≤1048576 from Nat.le_trans hh.own.2.1 hN)
 obtain ⟨nm,hnm2⟩:∃ nm,x.name=nm:=⟨_,rfl⟩
 have HNE:=Hd hnm2
 have znm:nm.size≤1048576:=by rw [← hnm2];exact hnm.out
 have HC1:=Hd (show cs[1]?=some (.string nm) by rw [← hnm2];exact hh.name)
 obtain ⟨b,o,haa,hb,hget⟩:=args_at hh (n:=3) hn (by decide)
 have HC15:=Hd (show cs[15]?=some (.slice (some ⟨b,o,none⟩) 3 ac) by rw [hh.args,hn,haa])
 obtain ⟨a0,r0,q0⟩:=hget 0 (by decide)
 have HR0:=Hd (show CellsAt w b (o) a0 by simpa using r0)
 have HQ0:=Hd q0
 have hl0:=Hd (show (Tryz.prog.info? 34).map (·.size)=some a0.length by rw [q0.len];kernel_rfl)
 obtain ⟨a1,r1,q1⟩:=hget 1 (by decide)
 have HR1:=Hd (show CellsAt w b (o+17) a1 by simpa using r1)
 have HQ1:=Hd q1
 have hl1:=Hd (show (Tryz.prog.info? 34).map (·.size)=some a1.length by rw [q1.len];kernel_rfl)
 obtain ⟨a2,r2,q2⟩:=hget 2 (by decide)
 have HR2:=Hd (show CellsAt w b (o+34) a2 by simpa using r2)
 have HQ2:=Hd q2
 have hl2:=Hd (show (Tryz.prog.info? 34).map (·.size)=some a2.length by rw [q2.len];kernel_rfl)
 obtain ⟨w1,hw1⟩:∃ w1,w1=w.alloc (.cells cs.toArray 34):=⟨_,rfl⟩
 have HW:=Hd hw1
 have R0:=Hd (show RowT 34 w1 w.heap.size cs by rw [hw1];exact RowT.new w 34 cs)
 have H0:=Hd (show Below w.heap.size w w1 by rw [hw1];exact belowBox w _)
 have HKA:=Hd (show ∀ v,Below w.heap.size w v→B≤v.heap.size∧Env v∧ExprD.At v B N (x.args.getD 0 default) a0∧ExprD.At v B N (x.args.getD 1 default) a1∧ExprD.At v B N (x.args.getD 2 default) a2∧ExprD.At v B N x cs from fun v hv=>⟨Nat.le_trans hB hv.size,HE.out.then hv,HQ0.out.below (hv.mono hB),HQ1.out.below (hv.mono hB),HQ2.out.below (hv.mono hB),HX.out.below (hv.mono hB)⟩)
 have e0:=R0.out.cell HC0.out
 have e1:=R0.out.cell HC1.out
 have e15:=R0.out.cell HC15.out
 obtain ⟨_,_,_,_,_,g2⟩:=q2.has
 obtain ⟨p2,hp2⟩:∃ p,(x.args.getD 2 default).op=p:=⟨_,rfl⟩
 have HP2:=Hd (show a2[0]?=some (.int .i64 p2) by rw [← hp2];exact g2.op)
 rw [hw1] at e0 e1 e15
 obtain ⟨s,hs⟩:∃ s,stepT f x=s:=⟨_,rfl⟩
 have HST:=Hd hs
 obtain ⟨s0,hs0⟩:∃ z,f (x.args.getD 0 default)=z:=⟨_,rfl⟩
 have HS0:=Hd hs0
 have zs0:s0.size≤274877906946:=by rw [← hs0];exact Nat.le_trans K0.out.size (by decide)
 obtain ⟨s1,hs1⟩:∃ z,f (x.args.getD 1 default)=z:=⟨_,rfl⟩
 have HS1:=Hd hs1
 have zs1:s1.size≤274877906946:=by rw [← hs1];exact Nat.le_trans K1.out.size (by decide)
 have HR:=Hd (show s=⟨#[105,102,32]⟩++s0++⟨#[32,116,104,101,110,32]⟩++s1++⟨#[]⟩++⟨#[32,101,110,100]⟩ by
  rw [← HST.out]
  unfold stepT
  rw [HO.out]
  simp only [if_true,if_false,Int.reduceEq]
  rw [hs0,hs1,if_pos hi])
 clear hx hE hh ho hnm2 hw1 hs hn haa hget k0 k1 hs0 hs1 g2 q2 r2
 go_enter Tryz.func22,Tryz.ntmps22
 have HP2O:=Hd (show p2=30 by rw [← hp2];exact hi)
 clear hi hp2
 go_wp2_with fail
 rw [← HW.out]
 refine wp_region_held_drew (S:=fun u=>Below w1.heap.size w1 u) (by kernel_rfl) (drewU w1) (fun hHeld=>?_)
 refine' tk 0 (.pointer (some ⟨w.heap.size,15,none⟩)) rfl rfl (.inl ⟨by rfl,fun u hu=>(by go_simp)⟩) hHeld ?_
 simp only [sq1,sq0]
 refine' tk 1 (.slice (some ⟨b,o,none⟩) 3 ac) rfl rfl (.inl ⟨by rfl,fun u hu=>(by have hc:=(R0.out.then hu).cell HC15.out;go_simp)⟩) hHeld ?_
 simp only [sq1,sq0]
 refine' tk 2 (.pointer (some ⟨b,o,none⟩)) rfl rfl (.inl ⟨by rfl,fun u hu=>(by go_simp)⟩) hHeld ?_
 simp only [sq1,sq0]
 refine' tk 3 _ rfl rfl (yieldsIf_load_mid (by kernel_rfl) 34 _ rfl (b) (o) rfl a0 _ (fun u hu=>(HR0.out.below ((belowThen H0.out hu).mono hB) hb).range) Tryz.underlying34 rfl hl0.out) hHeld ?_
 simp only [sq1,sq0]
 refine' tk 7 (.pointer (some ⟨w.heap.size,15,none⟩)) rfl rfl (.inl ⟨by rfl,fun u hu=>(by go_simp)⟩) hHeld ?_
 simp only [sq1,sq0]
 refine' tk 8 (.slice (some ⟨b,o,none⟩) 3 ac) rfl rfl (.inl ⟨by rfl,fun u hu=>(by have hc:=(R0.out.then hu).cell HC15.out;go_simp)⟩) hHeld ?_
 simp only [sq1,sq0]
 refine' tk 9 (.pointer (some ⟨b,o+17,none⟩)) rfl rfl (.inl ⟨by rfl,fun u hu=>(by go_simp)⟩) hHeld ?_
 simp only [sq1,sq0]
 refine' tk 10 _ rfl rfl (yieldsIf_load_mid (by kernel_rfl) 34 _ rfl (b) (o+17) rfl a1 _ (fun u hu=>(HR1.out.below ((belowThen H0.out hu).mono hB) hb).range) Tryz.underlying34 rfl hl1.out) hHeld ?_
 simp only [sq1,sq0]
 refine rd1 4 rfl (fun K hK=>?_)
 go_simp
 refine (arg_p f _ K0.out 0 _ B N a0 hN (HKA.out _ (belowThen H0.out hHeld)).1 (HKA.out _ (belowThen H0.out hHeld)).2.1 (HKA.out _ (belowThen H0.out hHeld)).2.2.1).mono ?_
 rw [atS_0,HS0.out]
 rintro e uC1 ⟨rfl,hbC⟩
 refine hK.out _ _ (belowThen hHeld hbC) (fun hHeld1=>?_)
 clear hK K hbC hHeld
 have hHeld:=hHeld1
 clear hHeld1
 refine' tk 5 (.string (⟨#[105,102,32]⟩++s0)) rfl rfl (.inl ⟨by rfl,fun u hu=>(by go_simp;all_goals omega)⟩) hHeld ?_
 simp only [sq1,sq0]
 refine' tk 6 (.string ((⟨#[105,102,32]⟩++s0)++⟨#[32,116,104,101,110,32]⟩)) rfl rfl (.inl ⟨by rfl,fun u hu=>(by go_simp;all_goals omega)⟩) hHeld ?_
 simp only [sq1,sq0]
 refine rd1 11 rfl (fun K hK=>?_)
 go_simp
 refine (arg_p f _ K1.out 0 _ B N a1 hN (HKA.out _ (belowThen H0.out hHeld)).1 (HKA.out _ (belowThen H0.out hHeld)).2.1 (HKA.out _ (belowThen H0.out hHeld)).2.2.2.1).mono ?_
 rw [atS_0,HS1.out]
 rintro e uC2 ⟨rfl,hbC⟩
 refine hK.out _ _ (belowThen hHeld hbC) (fun hHeld2=>?_)
 clear hK K hbC hHeld
 have hHeld:=hHeld2
 clear hHeld2
 refine' tk 12 (.string (((⟨#[105,102,32]⟩++s0)++⟨#[32,116,104,101,110,32]⟩)++s1)) rfl rfl (.inl ⟨by rfl,fun u hu=>(by go_simp;all_goals omega)⟩) hHeld ?_
 simp only [sq1,sq0]
 refine rd1 13 rfl (fun K hK=>?_)
 go_simp
 refine hK.out _ _ hHeld (fun hHeldx=>?_)
 clear hK K hHeldx
 refine wpAnyH_done (by kernel_rfl) ?_ _
 have HB1:=Hd (belowThen H0.out hHeld)
 have e15:=(R0.out.then hHeld).cell HC15.out
 have q9:=((HR2.out.below (HB1.out.mono hB) hb).get0' HP2.out)
 rw [HP2O.out] at q9
 have sc101:(⟨#[105,102,32]⟩++s0++⟨#[32,116,104,101,110,32]⟩++s1:ByteArray).size+(⟨#[32,101,110,100]⟩:ByteArray).size≤9223372036854775807:=by (repeat rw [ByteArray.size_append]);simp only [szl,List.size_toArray,List.length_cons,List.length_nil];omega
 go_wp2_with fail
 go_ret
 exact ⟨by rw [HST.out,HR.out,empty_mid];rfl,HB1.out⟩
set_option maxRecDepth 100000 in
set_option maxHeartbeats 6400000 in
theorem show_18_e (f:ExprD→ByteArray) (x:ExprD) (ho:x.op=18) (hn:x.args.length=3) (k0:KidP f (x.args.getD 0 default)) (k1:KidP f (x.args.getD 1 default)) (k2:KidP f (x.args.getD 2 default)) (hi:(x.args.getD 2 default).op≠30)
 (w:World) (B N:Nat) (cs:List Value) (hN:N≤1048576) (hB:B≤w.heap.size) (hE:Env w) (hx:ExprD.At w B N x cs):Calls Tryz.prog 22 #[.agg cs.toArray] w (StrB (stepT f x) w):=by
 have HX:=Hd hx
 have HE:=Hd hE
 have HO:=Hd ho
 have K0:=Hd k0
 have K1:=Hd k1
 have K2:=Hd k2
 have HI:=Hd hi
 have hl:=Hd (show (Tryz.prog.info? 34).map (·.size)=some cs.length by rw [hx.len];kernel_rfl)
 obtain ⟨aa,fa,ac,fc,vs,hh⟩:=hx.has
 have HC0:=Hd (show cs[0]?=some (.int .i64 18) by rw [← ho];exact hh.op)
 have hnm:=Hd (show x.name.size≤1048576 from Nat.le_trans hh.own.2.1 hN)
 obtain ⟨nm,hnm2⟩:∃ nm,x.name=nm:=⟨_,rfl⟩
 have HNE:=Hd hnm2
 have znm:nm.size≤1048576:=by rw [← hnm2];exact hnm.out
 have HC1:=Hd (show cs[1]?=some (.string nm) by rw [← hnm2];exact hh.name)
 obtain ⟨b,o,haa,hb,hget⟩:=args_at hh (n:=3) hn (by decide)
 have HC15:=Hd (show cs[15]?=some (.slice (some ⟨b,o,none⟩) 3 ac) by rw [hh.args,hn,haa])
 obtain ⟨a0,r0,q0⟩:=hget 0 (by decide)
 have HR0:=Hd (show CellsAt w b (o) a0 by simpa using r0)
 have HQ0:=Hd q0
 have hl0:=Hd (show (Tryz.prog.info? 34).map (·.size)=some a0.length by rw [q0.len];kernel_rfl)
 obtain ⟨a1,r1,q1⟩:=hget 1 (by decide)
 have HR1:=Hd (show CellsAt w b (o+17) a1 by simpa using r1)
 have HQ1:=Hd q1
 have hl1:=Hd (show (Tryz.prog.info? 34).map (·.size)=some a1.length by rw [q1.len];kernel_rfl)
 obtain ⟨a2,r2,q2⟩:=hget 2 (by decide)
 have HR2:=Hd (show CellsAt w b (o+34) a2 by simpa using r2)
 have HQ2:=Hd q2
 have hl2:=Hd (show (Tryz.prog.info? 34).map (·.size)=some a2.length by rw [q2.len];kernel_rfl)
 obtain ⟨w1,hw1⟩:∃ w1,w1=w.alloc (.cells cs.toArray 34):=⟨_,rfl⟩
 have HW:=Hd hw1
 have R0:=Hd (show RowT 34 w1 w.heap.size cs by rw [hw1];exact RowT.new w 34 cs)
 have H0:=Hd (show Below w.heap.size w w1 by rw [hw1];exact belowBox w _)
 have HKA:=Hd (show ∀ v,Below w.heap.size w v→B≤v.heap.size∧Env v∧ExprD.At v B N (x.args.getD 0 default) a0∧ExprD.At v B N (x.args.getD 1 default) a1∧ExprD.At v B N (x.args.getD 2 default) a2∧ExprD.At v B N x cs from fun v hv=>⟨Nat.le_trans hB hv.size,HE.out.then hv,HQ0.out.below (hv.mono hB),HQ1.out.below (hv.mono hB),HQ2.out.below (hv.mono hB),HX.out.below (hv.mono hB)⟩)
 have e0:=R0.out.cell HC0.out
 have e1:=R0.out.cell HC1.out
 have e15:=R0.out.cell HC15.out
 obtain ⟨_,_,_,_,_,g2⟩:=q2.has
 obtain ⟨p2,hp2⟩:∃ p,(x.args.getD 2 default).op=p:=⟨_,rfl⟩
 have HP2:=Hd (show a2[0]?=some (.int .i64 p2) by rw [← hp2];exact g2.op)
 rw [hw1] at e0 e1 e15
 obtain ⟨s,hs⟩:∃ s,stepT f x=s:=⟨_,rfl⟩
 have HST:=Hd hs
 obtain ⟨s0,hs0⟩:∃ z,f (x.args.getD 0 default)=z:=⟨_,rfl⟩
 have HS0:=Hd hs0
 have zs0:s0.size≤274877906946:=by rw [← hs0];exact Nat.le_trans K0.out.size (by decide)
 obtain ⟨s1,hs1⟩:∃ z,f (x.args.getD 1 default)=z:=⟨_,rfl⟩
 have HS1:=Hd hs1
 have zs1:s1.size≤274877906946:=by rw [← hs1];exact Nat.le_trans K1.out.size (by decide)
 obtain ⟨s2,hs2⟩:∃ z,f (x.args.getD 2 default)=z:=⟨_,rfl⟩
 have HS2:=Hd hs2
 have zs2:s2.size≤274877906946:=by rw [← hs2];exact Nat.le_trans K2.out.size (by decide)
 have HR:=Hd (show s=⟨#[105,102,32]⟩++s0++⟨#[32,116,104,101,110,32]⟩++s1++(⟨#[32,101,108,115,101,32]⟩++s2)++⟨#[32,101,110,100]⟩ by
  rw [← HST.out]
  unfold stepT
  rw [HO.out]
  simp only [if_true,if_false,Int.reduceEq]
  rw [hs0,hs1,hs2,if_neg hi])
 clear hx hE hh ho hnm2 hw1 hs hn haa hget k0 k1 hs0 hs1 g2 q2 r2 k2 hs2
 go_enter Tryz.func22,Tryz.ntmps22
 have HP2O:=Hd (show p2≠30 by rw [← hp2];exact hi)
 clear hi hp2
 go_wp2_with fail
 rw [← HW.out]
 refine wp_region_held_drew (S:=fun u=>Below w1.heap.size w1 u) (by kernel_rfl) (drewU w1) (fun hHeld=>?_)
 refine' tk 0 (.pointer (some ⟨w.heap.size,15,none⟩)) rfl rfl (.inl ⟨by rfl,fun u hu=>(by go_simp)⟩) hHeld ?_
 simp only [sq1,sq0]
 refine' tk 1 (.slice (some ⟨b,o,none⟩) 3 ac) rfl rfl (.inl ⟨by rfl,fun u hu=>(by have hc:=(R0.out.then hu).cell HC15.out;go_simp)⟩) hHeld ?_
 simp only [sq1,sq0]
 refine' tk 2 (.pointer (some ⟨b,o,none⟩)) rfl rfl (.inl ⟨by rfl,fun u hu=>(by go_simp)⟩) hHeld ?_
 simp only [sq1,sq0]
 refine' tk 3 _ rfl rfl (yieldsIf_load_mid (by kernel_rfl) 34 _ rfl (b) (o) rfl a0 _ (fun u hu=>(HR0.out.below ((belowThen H0.out hu).mono hB) hb).range) Tryz.underlying34 rfl hl0.out) hHeld ?_
 simp only [sq1,sq0]
 refine' tk 7 (.pointer (some ⟨w.heap.size,15,none⟩)) rfl rfl (.inl ⟨by rfl,fun u hu=>(by go_simp)⟩) hHeld ?_
 simp only [sq1,sq0]
 refine' tk 8 (.slice (some ⟨b,o,none⟩) 3 ac) rfl rfl (.inl ⟨by rfl,fun u hu=>(by have hc:=(R0.out.then hu).cell HC15.out;go_simp)⟩) hHeld ?_
 simp only [sq1,sq0]
 refine' tk 9 (.pointer (some ⟨b,o+17,none⟩)) rfl rfl (.inl ⟨by rfl,fun u hu=>(by go_simp)⟩) hHeld ?_
 simp only [sq1,sq0]
 refine' tk 10 _ rfl rfl (yieldsIf_load_mid (by kernel_rfl) 34 _ rfl (b) (o+17) rfl a1 _ (fun u hu=>(HR1.out.below ((belowThen H0.out hu).mono hB) hb).range) Tryz.underlying34 rfl hl1.out) hHeld ?_
 simp only [sq1,sq0]
 refine rd1 4 rfl (fun K hK=>?_)
 go_simp
 refine (arg_p f _ K0.out 0 _ B N a0 hN (HKA.out _ (belowThen H0.out hHeld)).1 (HKA.out _ (belowThen H0.out hHeld)).2.1 (HKA.out _ (belowThen H0.out hHeld)).2.2.1).mono ?_
 rw [atS_0,HS0.out]
 rintro e uC1 ⟨rfl,hbC⟩
 refine hK.out _ _ (belowThen hHeld hbC) (fun hHeld1=>?_)
 clear hK K hbC hHeld
 have hHeld:=hHeld1
 clear hHeld1
 refine' tk 5 (.string (⟨#[105,102,32]⟩++s0)) rfl rfl (.inl ⟨by rfl,fun u hu=>(by go_simp;all_goals omega)⟩) hHeld ?_
 simp only [sq1,sq0]
 refine' tk 6 (.string ((⟨#[105,102,32]⟩++s0)++⟨#[32,116,104,101,110,32]⟩)) rfl rfl (.inl ⟨by rfl,fun u hu=>(by go_simp;all_goals omega)⟩) hHeld ?_
 simp only [sq1,sq0]
 refine rd1 11 rfl (fun K hK=>?_)
 go_simp
 refine (arg_p f _ K1.out 0 _ B N a1 hN (HKA.out _ (belowThen H0.out hHeld)).1 (HKA.out _ (belowThen H0.out hHeld)).2.1 (HKA.out _ (belowThen H0.out hHeld)).2.2.2.1).mono ?_
 rw [atS_0,HS1.out]
 rintro e uC2 ⟨rfl,hbC⟩
 refine hK.out _ _ (belowThen hHeld hbC) (fun hHeld2=>?_)
 clear hK K hbC hHeld
 have hHeld:=hHeld2
 clear hHeld2
 refine' tk 12 (.string (((⟨#[105,102,32]⟩++s0)++⟨#[32,116,104,101,110,32]⟩)++s1)) rfl rfl (.inl ⟨by rfl,fun u hu=>(by go_simp;all_goals omega)⟩) hHeld ?_
 simp only [sq1,sq0]
 refine rd1 13 rfl (fun K hK=>?_)
 go_simp
 refine hK.out _ _ hHeld (fun hHeldx=>?_)
 clear hK K hHeldx
 refine wpAnyH_done (by kernel_rfl) ?_ _
 have HB1:=Hd (belowThen H0.out hHeld)
 have e15:=(R0.out.then hHeld).cell HC15.out
 have q9:=((HR2.out.below (HB1.out.mono hB) hb).get0' HP2.out)
 have n1:(p2 != 30)=true:=by simpa using HP2O.out
 have n2:(p2==30)=false:=by simpa using HP2O.out
 go_wp2_with ((with_reducible show wpList _ _ _ (⟨some 96,_,_,_,_,_⟩::_) _ _);refine wpList_load_mid rfl 34 _ rfl b (o+34) rfl a2 _ (HR2.out.below (HB1.out.mono hB) hb).range Tryz.underlying34 rfl hl2.out ?_)
 refine (arg_p f _ K2.out 0 _ B N a2 hN (HKA.out _ HB1.out).1 (HKA.out _ HB1.out).2.1 (HKA.out _ HB1.out).2.2.2.2.1).mono ?_
 rw [atS_0,HS2.out]
 rintro e wv ⟨rfl,hb1⟩
 have Hwv:=Hd (belowThen HB1.out hb1)
 have sc101:(⟨#[32,101,108,115,101,32]⟩:ByteArray).size+(s2:ByteArray).size≤9223372036854775807:=by simp only [szl,List.size_toArray,List.length_cons,List.length_nil];omega
 have sc102:(⟨#[105,102,32]⟩++s0++⟨#[32,116,104,101,110,32]⟩++s1:ByteArray).size+(⟨#[32,101,108,115,101,32]⟩++s2:ByteArray).size≤9223372036854775807:=by (repeat rw [ByteArray.size_append]);simp only [szl,List.size_toArray,List.length_cons,List.length_nil];omega
 have sc103:(⟨#[105,102,32]⟩++s0++⟨#[32,116,104,101,110,32]⟩++s1++(⟨#[32,101,108,115,101,32]⟩++s2):ByteArray).size+(⟨#[32,101,110,100]⟩:ByteArray).size≤9223372036854775807:=by (repeat rw [ByteArray.size_append]);simp only [szl,List.size_toArray,List.length_cons,List.length_nil];omega
 go_wp2_with fail
 go_ret
 exact ⟨by rw [HST.out,HR.out];rfl,Hwv.out⟩
set_option maxRecDepth 100000 in
set_option maxHeartbeats 6400000 in
theorem show_post_5 (f:ExprD→ByteArray) (x:ExprD) (ho:x.op=5) (hp:∀ (w:World) (B N:Nat) (cs:List Value),N≤1048576→B≤w.heap.size→Env w→ExprD.At w B N x cs→Calls Tryz.prog 57 #[.agg cs.toArray] w (StrB (stepT f x) w))
 (w:World) (B N:Nat) (cs:List Value) (hN:N≤1048576) (hB:B≤w.heap.size) (hE:Env w) (hx:ExprD.At w B N x cs):Calls Tryz.prog 22 #[.agg cs.toArray] w (StrB (stepT f x) w):=by
 have HX:=Hd hx
 have HE:=Hd hE
 have HP:=Hd hp
 have hl:=Hd (show (Tryz.prog.info? 34).map (·.size)=some cs.length by rw [hx.len];kernel_rfl)
 obtain ⟨aa,fa,ac,fc,vs,hh⟩:=hx.has
 have R0:=Hd (box_at w cs 34)
 have H0:=Hd (belowBox w (.cells cs.toArray 34))
 have e0:=R0.out.get0 hh.op
 rw [ho] at e0
 clear hx hE hp hh ho
 go_enter Tryz.func22,Tryz.ntmps22
 go_wp2_with ((with_reducible show wpList _ _ _ (⟨some 34,_,_,_,_,_⟩::_) _ _);refine wpList_load_mid rfl 34 _ rfl w.heap.size 0 rfl cs _ R0.out.range Tryz.underlying34 rfl hl.out ?_)
 refine (HP.out _ B N cs hN (Nat.le_trans hB H0.out.size) (HE.out.then H0.out) (HX.out.below (H0.out.mono hB))).mono ?_
 rintro e w1 ⟨rfl,hb1⟩
 have H1:=Hd (belowThen H0.out hb1)
 clear hb1
 go_wp2_with fail
 go_ret
 exact ⟨rfl,H1.out⟩
set_option maxRecDepth 100000 in
set_option maxHeartbeats 6400000 in
theorem show_post_6 (f:ExprD→ByteArray) (x:ExprD) (ho:x.op=6) (hp:∀ (w:World) (B N:Nat) (cs:List Value),N≤1048576→B≤w.heap.size→Env w→ExprD.At w B N x cs→Calls Tryz.prog 57 #[.agg cs.toArray] w (StrB (stepT f x) w))
 (w:World) (B N:Nat) (cs:List Value) (hN:N≤1048576) (hB:B≤w.heap.size) (hE:Env w) (hx:ExprD.At w B N x cs):Calls Tryz.prog 22 #[.agg cs.toArray] w (StrB (stepT f x) w):=by
 have HX:=Hd hx
 have HE:=Hd hE
 have HP:=Hd hp
 have hl:=Hd (show (Tryz.prog.info? 34).map (·.size)=some cs.length by rw [hx.len];kernel_rfl)
 obtain ⟨aa,fa,ac,fc,vs,hh⟩:=hx.has
 have R0:=Hd (box_at w cs 34)
 have H0:=Hd (belowBox w (.cells cs.toArray 34))
 have e0:=R0.out.get0 hh.op
 rw [ho] at e0
 clear hx hE hp hh ho
 go_enter Tryz.func22,Tryz.ntmps22
 go_wp2_with ((with_reducible show wpList _ _ _ (⟨some 34,_,_,_,_,_⟩::_) _ _);refine wpList_load_mid rfl 34 _ rfl w.heap.size 0 rfl cs _ R0.out.range Tryz.underlying34 rfl hl.out ?_)
 refine (HP.out _ B N cs hN (Nat.le_trans hB H0.out.size) (HE.out.then H0.out) (HX.out.below (H0.out.mono hB))).mono ?_
 rintro e w1 ⟨rfl,hb1⟩
 have H1:=Hd (belowThen H0.out hb1)
 clear hb1
 go_wp2_with fail
 go_ret
 exact ⟨rfl,H1.out⟩
set_option maxRecDepth 100000 in
set_option maxHeartbeats 6400000 in
theorem show_post_7 (f:ExprD→ByteArray) (x:ExprD) (ho:x.op=7) (hp:∀ (w:World) (B N:Nat) (cs:List Value),N≤1048576→B≤w.heap.size→Env w→ExprD.At w B N x cs→Calls Tryz.prog 57 #[.agg cs.toArray] w (StrB (stepT f x) w))
 (w:World) (B N:Nat) (cs:List Value) (hN:N≤1048576) (hB:B≤w.heap.size) (hE:Env w) (hx:ExprD.At w B N x cs):Calls Tryz.prog 22 #[.agg cs.toArray] w (StrB (stepT f x) w):=by
 have HX:=Hd hx
 have HE:=Hd hE
 have HP:=Hd hp
 have hl:=Hd (show (Tryz.prog.info? 34).map (·.size)=some cs.length by rw [hx.len];kernel_rfl)
 obtain ⟨aa,fa,ac,fc,vs,hh⟩:=hx.has
 have R0:=Hd (box_at w cs 34)
 have H0:=Hd (belowBox w (.cells cs.toArray 34))
 have e0:=R0.out.get0 hh.op
 rw [ho] at e0
 clear hx hE hp hh ho
 go_enter Tryz.func22,Tryz.ntmps22
 go_wp2_with ((with_reducible show wpList _ _ _ (⟨some 34,_,_,_,_,_⟩::_) _ _);refine wpList_load_mid rfl 34 _ rfl w.heap.size 0 rfl cs _ R0.out.range Tryz.underlying34 rfl hl.out ?_)
 refine (HP.out _ B N cs hN (Nat.le_trans hB H0.out.size) (HE.out.then H0.out) (HX.out.below (H0.out.mono hB))).mono ?_
 rintro e w1 ⟨rfl,hb1⟩
 have H1:=Hd (belowThen H0.out hb1)
 clear hb1
 go_wp2_with fail
 go_ret
 exact ⟨rfl,H1.out⟩
set_option maxRecDepth 100000 in
set_option maxHeartbeats 6400000 in
theorem show_post_8 (f:ExprD→ByteArray) (x:ExprD) (ho:x.op=8) (hp:∀ (w:World) (B N:Nat) (cs:List Value),N≤1048576→B≤w.heap.size→Env w→ExprD.At w B N x cs→Calls Tryz.prog 57 #[.agg cs.toArray] w (StrB (stepT f x) w))
 (w:World) (B N:Nat) (cs:List Value) (hN:N≤1048576) (hB:B≤w.heap.size) (hE:Env w) (hx:ExprD.At w B N x cs):Calls Tryz.prog 22 #[.agg cs.toArray] w (StrB (stepT f x) w):=by
 have HX:=Hd hx
 have HE:=Hd hE
 have HP:=Hd hp
 have hl:=Hd (show (Tryz.prog.info? 34).map (·.size)=some cs.length by rw [hx.len];kernel_rfl)
 obtain ⟨aa,fa,ac,fc,vs,hh⟩:=hx.has
 have R0:=Hd (box_at w cs 34)
 have H0:=Hd (belowBox w (.cells cs.toArray 34))
 have e0:=R0.out.get0 hh.op
 rw [ho] at e0
 clear hx hE hp hh ho
 go_enter Tryz.func22,Tryz.ntmps22
 go_wp2_with ((with_reducible show wpList _ _ _ (⟨some 34,_,_,_,_,_⟩::_) _ _);refine wpList_load_mid rfl 34 _ rfl w.heap.size 0 rfl cs _ R0.out.range Tryz.underlying34 rfl hl.out ?_)
 refine (HP.out _ B N cs hN (Nat.le_trans hB H0.out.size) (HE.out.then H0.out) (HX.out.below (H0.out.mono hB))).mono ?_
 rintro e w1 ⟨rfl,hb1⟩
 have H1:=Hd (belowThen H0.out hb1)
 clear hb1
 go_wp2_with fail
 go_ret
 exact ⟨rfl,H1.out⟩
set_option maxRecDepth 100000 in
set_option maxHeartbeats 6400000 in
theorem show_bin_9 (f:ExprD→ByteArray) (x:ExprD) (ho:x.op=9) (hp:∀ (w:World) (B N:Nat) (cs:List Value),N≤1048576→B≤w.heap.size→Env w→ExprD.At w B N x cs→Calls Tryz.prog 62 #[.agg cs.toArray] w (StrB (stepT f x) w))
 (w:World) (B N:Nat) (cs:List Value) (hN:N≤1048576) (hB:B≤w.heap.size) (hE:Env w) (hx:ExprD.At w B N x cs):Calls Tryz.prog 22 #[.agg cs.toArray] w (StrB (stepT f x) w):=by
 have HX:=Hd hx
 have HE:=Hd hE
 have HP:=Hd hp
 have hl:=Hd (show (Tryz.prog.info? 34).map (·.size)=some cs.length by rw [hx.len];kernel_rfl)
 obtain ⟨aa,fa,ac,fc,vs,hh⟩:=hx.has
 have R0:=Hd (box_at w cs 34)
 have H0:=Hd (belowBox w (.cells cs.toArray 34))
 have e0:=R0.out.get0 hh.op
 rw [ho] at e0
 clear hx hE hp hh ho
 go_enter Tryz.func22,Tryz.ntmps22
 go_wp2_with ((with_reducible show wpList _ _ _ (⟨some 208,_,_,_,_,_⟩::_) _ _);refine wpList_load_mid rfl 34 _ rfl w.heap.size 0 rfl cs _ R0.out.range Tryz.underlying34 rfl hl.out ?_)
 refine (HP.out _ B N cs hN (Nat.le_trans hB H0.out.size) (HE.out.then H0.out) (HX.out.below (H0.out.mono hB))).mono ?_
 rintro e w1 ⟨rfl,hb1⟩
 have H1:=Hd (belowThen H0.out hb1)
 clear hb1
 go_wp2_with fail
 go_ret
 exact ⟨rfl,H1.out⟩
set_option maxRecDepth 100000 in
set_option maxHeartbeats 6400000 in
theorem show_bin_10 (f:ExprD→ByteArray) (x:ExprD) (ho:x.op=10) (hp:∀ (w:World) (B N:Nat) (cs:List Value),N≤1048576→B≤w.heap.size→Env w→ExprD.At w B N x cs→Calls Tryz.prog 62 #[.agg cs.toArray] w (StrB (stepT f x) w))
 (w:World) (B N:Nat) (cs:List Value) (hN:N≤1048576) (hB:B≤w.heap.size) (hE:Env w) (hx:ExprD.At w B N x cs):Calls Tryz.prog 22 #[.agg cs.toArray] w (StrB (stepT f x) w):=by
 have HX:=Hd hx
 have HE:=Hd hE
 have HP:=Hd hp
 have hl:=Hd (show (Tryz.prog.info? 34).map (·.size)=some cs.length by rw [hx.len];kernel_rfl)
 obtain ⟨aa,fa,ac,fc,vs,hh⟩:=hx.has
 have R0:=Hd (box_at w cs 34)
 have H0:=Hd (belowBox w (.cells cs.toArray 34))
 have e0:=R0.out.get0 hh.op
 rw [ho] at e0
 clear hx hE hp hh ho
 go_enter Tryz.func22,Tryz.ntmps22
 go_wp2_with ((with_reducible show wpList _ _ _ (⟨some 208,_,_,_,_,_⟩::_) _ _);refine wpList_load_mid rfl 34 _ rfl w.heap.size 0 rfl cs _ R0.out.range Tryz.underlying34 rfl hl.out ?_)
 refine (HP.out _ B N cs hN (Nat.le_trans hB H0.out.size) (HE.out.then H0.out) (HX.out.below (H0.out.mono hB))).mono ?_
 rintro e w1 ⟨rfl,hb1⟩
 have H1:=Hd (belowThen H0.out hb1)
 clear hb1
 go_wp2_with fail
 go_ret
 exact ⟨rfl,H1.out⟩
set_option maxRecDepth 100000 in
set_option maxHeartbeats 6400000 in
theorem show_bin_16 (f:ExprD→ByteArray) (x:ExprD) (ho:x.op=16) (hp:∀ (w:World) (B N:Nat) (cs:List Value),N≤1048576→B≤w.heap.size→Env w→ExprD.At w B N x cs→Calls Tryz.prog 62 #[.agg cs.toArray] w (StrB (stepT f x) w))
 (w:World) (B N:Nat) (cs:List Value) (hN:N≤1048576) (hB:B≤w.heap.size) (hE:Env w) (hx:ExprD.At w B N x cs):Calls Tryz.prog 22 #[.agg cs.toArray] w (StrB (stepT f x) w):=by
 have HX:=Hd hx
 have HE:=Hd hE
 have HP:=Hd hp
 have hl:=Hd (show (Tryz.prog.info? 34).map (·.size)=some cs.length by rw [hx.len];kernel_rfl)
 obtain ⟨aa,fa,ac,fc,vs,hh⟩:=hx.has
 have R0:=Hd (box_at w cs 34)
 have H0:=Hd (belowBox w (.cells cs.toArray 34))
 have e0:=R0.out.get0 hh.op
 rw [ho] at e0
 clear hx hE hp hh ho
 go_enter Tryz.func22,Tryz.ntmps22
 go_wp2_with ((with_reducible show wpList _ _ _ (⟨some 208,_,_,_,_,_⟩::_) _ _);refine wpList_load_mid rfl 34 _ rfl w.heap.size 0 rfl cs _ R0.out.range Tryz.underlying34 rfl hl.out ?_)
 refine (HP.out _ B N cs hN (Nat.le_trans hB H0.out.size) (HE.out.then H0.out) (HX.out.below (H0.out.mono hB))).mono ?_
 rintro e w1 ⟨rfl,hb1⟩
 have H1:=Hd (belowThen H0.out hb1)
 clear hb1
 go_wp2_with fail
 go_ret
 exact ⟨rfl,H1.out⟩
set_option maxRecDepth 100000 in
set_option maxHeartbeats 6400000 in
theorem show_bin_28 (f:ExprD→ByteArray) (x:ExprD) (ho:x.op=28) (hp:∀ (w:World) (B N:Nat) (cs:List Value),N≤1048576→B≤w.heap.size→Env w→ExprD.At w B N x cs→Calls Tryz.prog 62 #[.agg cs.toArray] w (StrB (stepT f x) w))
 (w:World) (B N:Nat) (cs:List Value) (hN:N≤1048576) (hB:B≤w.heap.size) (hE:Env w) (hx:ExprD.At w B N x cs):Calls Tryz.prog 22 #[.agg cs.toArray] w (StrB (stepT f x) w):=by
 have HX:=Hd hx
 have HE:=Hd hE
 have HP:=Hd hp
 have hl:=Hd (show (Tryz.prog.info? 34).map (·.size)=some cs.length by rw [hx.len];kernel_rfl)
 obtain ⟨aa,fa,ac,fc,vs,hh⟩:=hx.has
 have R0:=Hd (box_at w cs 34)
 have H0:=Hd (belowBox w (.cells cs.toArray 34))
 have e0:=R0.out.get0 hh.op
 rw [ho] at e0
 clear hx hE hp hh ho
 go_enter Tryz.func22,Tryz.ntmps22
 go_wp2_with ((with_reducible show wpList _ _ _ (⟨some 208,_,_,_,_,_⟩::_) _ _);refine wpList_load_mid rfl 34 _ rfl w.heap.size 0 rfl cs _ R0.out.range Tryz.underlying34 rfl hl.out ?_)
 refine (HP.out _ B N cs hN (Nat.le_trans hB H0.out.size) (HE.out.then H0.out) (HX.out.below (H0.out.mono hB))).mono ?_
 rintro e w1 ⟨rfl,hb1⟩
 have H1:=Hd (belowThen H0.out hb1)
 clear hb1
 go_wp2_with fail
 go_ret
 exact ⟨rfl,H1.out⟩
set_option maxRecDepth 100000 in
set_option maxHeartbeats 6400000 in
theorem show_bin_29 (f:ExprD→ByteArray) (x:ExprD) (ho:x.op=29) (hp:∀ (w:World) (B N:Nat) (cs:List Value),N≤1048576→B≤w.heap.size→Env w→ExprD.At w B N x cs→Calls Tryz.prog 62 #[.agg cs.toArray] w (StrB (stepT f x) w))
 (w:World) (B N:Nat) (cs:List Value) (hN:N≤1048576) (hB:B≤w.heap.size) (hE:Env w) (hx:ExprD.At w B N x cs):Calls Tryz.prog 22 #[.agg cs.toArray] w (StrB (stepT f x) w):=by
 have HX:=Hd hx
 have HE:=Hd hE
 have HP:=Hd hp
 have hl:=Hd (show (Tryz.prog.info? 34).map (·.size)=some cs.length by rw [hx.len];kernel_rfl)
 obtain ⟨aa,fa,ac,fc,vs,hh⟩:=hx.has
 have R0:=Hd (box_at w cs 34)
 have H0:=Hd (belowBox w (.cells cs.toArray 34))
 have e0:=R0.out.get0 hh.op
 rw [ho] at e0
 clear hx hE hp hh ho
 go_enter Tryz.func22,Tryz.ntmps22
 go_wp2_with ((with_reducible show wpList _ _ _ (⟨some 208,_,_,_,_,_⟩::_) _ _);refine wpList_load_mid rfl 34 _ rfl w.heap.size 0 rfl cs _ R0.out.range Tryz.underlying34 rfl hl.out ?_)
 refine (HP.out _ B N cs hN (Nat.le_trans hB H0.out.size) (HE.out.then H0.out) (HX.out.below (H0.out.mono hB))).mono ?_
 rintro e w1 ⟨rfl,hb1⟩
 have H1:=Hd (belowThen H0.out hb1)
 clear hb1
 go_wp2_with fail
 go_ret
 exact ⟨rfl,H1.out⟩
set_option maxRecDepth 100000 in
set_option maxHeartbeats 6400000 in
theorem show_bin_15 (f:ExprD→ByteArray) (x:ExprD) (ho:x.op=15) (hp:∀ (w:World) (B N:Nat) (cs:List Value),N≤1048576→B≤w.heap.size→Env w→ExprD.At w B N x cs→Calls Tryz.prog 62 #[.agg cs.toArray] w (StrB (stepT f x) w))
 (w:World) (B N:Nat) (cs:List Value) (hN:N≤1048576) (hB:B≤w.heap.size) (hE:Env w) (hx:ExprD.At w B N x cs):Calls Tryz.prog 22 #[.agg cs.toArray] w (StrB (stepT f x) w):=by
 have HX:=Hd hx
 have HE:=Hd hE
 have HP:=Hd hp
 have hl:=Hd (show (Tryz.prog.info? 34).map (·.size)=some cs.length by rw [hx.len];kernel_rfl)
 obtain ⟨aa,fa,ac,fc,vs,hh⟩:=hx.has
 have R0:=Hd (box_at w cs 34)
 have H0:=Hd (belowBox w (.cells cs.toArray 34))
 have e0:=R0.out.get0 hh.op
 rw [ho] at e0
 clear hx hE hp hh ho
 go_enter Tryz.func22,Tryz.ntmps22
 go_wp2_with ((with_reducible show wpList _ _ _ (⟨some 208,_,_,_,_,_⟩::_) _ _);refine wpList_load_mid rfl 34 _ rfl w.heap.size 0 rfl cs _ R0.out.range Tryz.underlying34 rfl hl.out ?_)
 refine (HP.out _ B N cs hN (Nat.le_trans hB H0.out.size) (HE.out.then H0.out) (HX.out.below (H0.out.mono hB))).mono ?_
 rintro e w1 ⟨rfl,hb1⟩
 have H1:=Hd (belowThen H0.out hb1)
 clear hb1
 go_wp2_with fail
 go_ret
 exact ⟨rfl,H1.out⟩
set_option maxRecDepth 100000 in
set_option maxHeartbeats 6400000 in
theorem show_bin_14 (f:ExprD→ByteArray) (x:ExprD) (ho:x.op=14) (hp:∀ (w:World) (B N:Nat) (cs:List Value),N≤1048576→B≤w.heap.size→Env w→ExprD.At w B N x cs→Calls Tryz.prog 62 #[.agg cs.toArray] w (StrB (stepT f x) w))
 (w:World) (B N:Nat) (cs:List Value) (hN:N≤1048576) (hB:B≤w.heap.size) (hE:Env w) (hx:ExprD.At w B N x cs):Calls Tryz.prog 22 #[.agg cs.toArray] w (StrB (stepT f x) w):=by
 have HX:=Hd hx
 have HE:=Hd hE
 have HP:=Hd hp
 have hl:=Hd (show (Tryz.prog.info? 34).map (·.size)=some cs.length by rw [hx.len];kernel_rfl)
 obtain ⟨aa,fa,ac,fc,vs,hh⟩:=hx.has
 have R0:=Hd (box_at w cs 34)
 have H0:=Hd (belowBox w (.cells cs.toArray 34))
 have e0:=R0.out.get0 hh.op
 rw [ho] at e0
 clear hx hE hp hh ho
 go_enter Tryz.func22,Tryz.ntmps22
 go_wp2_with ((with_reducible show wpList _ _ _ (⟨some 208,_,_,_,_,_⟩::_) _ _);refine wpList_load_mid rfl 34 _ rfl w.heap.size 0 rfl cs _ R0.out.range Tryz.underlying34 rfl hl.out ?_)
 refine (HP.out _ B N cs hN (Nat.le_trans hB H0.out.size) (HE.out.then H0.out) (HX.out.below (H0.out.mono hB))).mono ?_
 rintro e w1 ⟨rfl,hb1⟩
 have H1:=Hd (belowThen H0.out hb1)
 clear hb1
 go_wp2_with fail
 go_ret
 exact ⟨rfl,H1.out⟩
set_option maxRecDepth 100000 in
set_option maxHeartbeats 6400000 in
theorem show_bin_13 (f:ExprD→ByteArray) (x:ExprD) (ho:x.op=13) (hp:∀ (w:World) (B N:Nat) (cs:List Value),N≤1048576→B≤w.heap.size→Env w→ExprD.At w B N x cs→Calls Tryz.prog 62 #[.agg cs.toArray] w (StrB (stepT f x) w))
 (w:World) (B N:Nat) (cs:List Value) (hN:N≤1048576) (hB:B≤w.heap.size) (hE:Env w) (hx:ExprD.At w B N x cs):Calls Tryz.prog 22 #[.agg cs.toArray] w (StrB (stepT f x) w):=by
 have HX:=Hd hx
 have HE:=Hd hE
 have HP:=Hd hp
 have hl:=Hd (show (Tryz.prog.info? 34).map (·.size)=some cs.length by rw [hx.len];kernel_rfl)
 obtain ⟨aa,fa,ac,fc,vs,hh⟩:=hx.has
 have R0:=Hd (box_at w cs 34)
 have H0:=Hd (belowBox w (.cells cs.toArray 34))
 have e0:=R0.out.get0 hh.op
 rw [ho] at e0
 clear hx hE hp hh ho
 go_enter Tryz.func22,Tryz.ntmps22
 go_wp2_with ((with_reducible show wpList _ _ _ (⟨some 208,_,_,_,_,_⟩::_) _ _);refine wpList_load_mid rfl 34 _ rfl w.heap.size 0 rfl cs _ R0.out.range Tryz.underlying34 rfl hl.out ?_)
 refine (HP.out _ B N cs hN (Nat.le_trans hB H0.out.size) (HE.out.then H0.out) (HX.out.below (H0.out.mono hB))).mono ?_
 rintro e w1 ⟨rfl,hb1⟩
 have H1:=Hd (belowThen H0.out hb1)
 clear hb1
 go_wp2_with fail
 go_ret
 exact ⟨rfl,H1.out⟩
set_option maxRecDepth 100000 in
set_option maxHeartbeats 6400000 in
theorem show_bin_12 (f:ExprD→ByteArray) (x:ExprD) (ho:x.op=12) (hp:∀ (w:World) (B N:Nat) (cs:List Value),N≤1048576→B≤w.heap.size→Env w→ExprD.At w B N x cs→Calls Tryz.prog 62 #[.agg cs.toArray] w (StrB (stepT f x) w))
 (w:World) (B N:Nat) (cs:List Value) (hN:N≤1048576) (hB:B≤w.heap.size) (hE:Env w) (hx:ExprD.At w B N x cs):Calls Tryz.prog 22 #[.agg cs.toArray] w (StrB (stepT f x) w):=by
 have HX:=Hd hx
 have HE:=Hd hE
 have HP:=Hd hp
 have hl:=Hd (show (Tryz.prog.info? 34).map (·.size)=some cs.length by rw [hx.len];kernel_rfl)
 obtain ⟨aa,fa,ac,fc,vs,hh⟩:=hx.has
 have R0:=Hd (box_at w cs 34)
 have H0:=Hd (belowBox w (.cells cs.toArray 34))
 have e0:=R0.out.get0 hh.op
 rw [ho] at e0
 clear hx hE hp hh ho
 go_enter Tryz.func22,Tryz.ntmps22
 go_wp2_with ((with_reducible show wpList _ _ _ (⟨some 208,_,_,_,_,_⟩::_) _ _);refine wpList_load_mid rfl 34 _ rfl w.heap.size 0 rfl cs _ R0.out.range Tryz.underlying34 rfl hl.out ?_)
 refine (HP.out _ B N cs hN (Nat.le_trans hB H0.out.size) (HE.out.then H0.out) (HX.out.below (H0.out.mono hB))).mono ?_
 rintro e w1 ⟨rfl,hb1⟩
 have H1:=Hd (belowThen H0.out hb1)
 clear hb1
 go_wp2_with fail
 go_ret
 exact ⟨rfl,H1.out⟩
end Go.Proofs.YtiefeajappjnbaaGreatDoor
