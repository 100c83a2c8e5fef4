/- The reference's Source, branch by branch (printed by genref36.py). -/
import Derived.Test.YtiefeajappjnbaaGreatDoorGA
import Derived.Test.YtiefeajappjnbaaGreatDoorInf36
namespace Go.Proofs.YtiefeajappjnbaaGreatDoor
open Go.RowKit
set_option maxRecDepth 100000 in
set_option maxHeartbeats 6400000 in
theorem src_1 (f:ExprD→ByteArray) (x:ExprD) (ho:x.op=1)
 (w:World) (B N:Nat) (cs:List Value) (hN:N≤1048576) (hB:B≤w.heap.size) (hE:Env w) (hx:ExprD.At w B N x cs):Calls Tryz.prog 24 #[.agg cs.toArray] w (StrB (stepT f x) w):=by
 have HX:=Hd hx
 have HE:=Hd hE
 have HO:=Hd ho
 have hl:=Hd (show (Tryz.prog.info? 34).map (·.size)=some cs.length by rw [hx.len];kernel_rfl)
 obtain ⟨aa,fa,ac,fc,vs,hh⟩:=hx.has
 have HC0:=Hd (show cs[0]?=some (.int .i64 1) by rw [← ho];exact hh.op)
 have hnm:=Hd (show x.name.size≤1048576 from Nat.le_trans hh.own.2.1 hN)
 obtain ⟨nm,hnm2⟩:∃ nm,x.name=nm:=⟨_,rfl⟩
 have HNE:=Hd hnm2
 have znm:nm.size≤1048576:=by rw [← hnm2];exact hnm.out
 have HC1:=Hd (show cs[1]?=some (.string nm) by rw [← hnm2];exact hh.name)
 obtain ⟨w1,hw1⟩:∃ w1,w1=w.alloc (.cells cs.toArray 34):=⟨_,rfl⟩
 have HW:=Hd hw1
 have R0:=Hd (show RowT 34 w1 w.heap.size cs by rw [hw1];exact RowT.new w 34 cs)
 have H0:=Hd (show Below w.heap.size w w1 by rw [hw1];exact belowBox w _)
 have HKA:=Hd (show ∀ v,Below w.heap.size w v→B≤v.heap.size∧Env v∧ExprD.At v B N x cs from fun v hv=>⟨Nat.le_trans hB hv.size,HE.out.then hv,HX.out.below (hv.mono hB)⟩)
 have e0:=R0.out.cell HC0.out
 have e1:=R0.out.cell HC1.out
 rw [hw1] at e0 e1
 obtain ⟨s,hs⟩:∃ s,stepT f x=s:=⟨_,rfl⟩
 have HST:=Hd hs
 have HR:=Hd (show s=(⟨#[46]⟩:ByteArray) by
  rw [← HST.out]
  unfold stepT
  rw [HO.out]
  simp only [if_true,if_false,Int.reduceEq]
  skip)
 clear hx hE hh ho hnm2 hw1 hs
 go_enter Tryz.func24,Tryz.ntmps24
 go_wp2_with fail
 go_ret
 exact ⟨by rw [HST.out,HR.out];rfl,(by rw [← HW.out];exact H0.out)⟩
set_option maxRecDepth 100000 in
set_option maxHeartbeats 6400000 in
theorem src_2 (f:ExprD→ByteArray) (x:ExprD) (ho:x.op=2)
 (w:World) (B N:Nat) (cs:List Value) (hN:N≤1048576) (hB:B≤w.heap.size) (hE:Env w) (hx:ExprD.At w B N x cs):Calls Tryz.prog 24 #[.agg cs.toArray] w (StrB (stepT f x) w):=by
 have HX:=Hd hx
 have HE:=Hd hE
 have HO:=Hd ho
 have hl:=Hd (show (Tryz.prog.info? 34).map (·.size)=some cs.length by rw [hx.len];kernel_rfl)
 obtain ⟨aa,fa,ac,fc,vs,hh⟩:=hx.has
 have HC0:=Hd (show cs[0]?=some (.int .i64 2) by rw [← ho];exact hh.op)
 have hnm:=Hd (show x.name.size≤1048576 from Nat.le_trans hh.own.2.1 hN)
 obtain ⟨nm,hnm2⟩:∃ nm,x.name=nm:=⟨_,rfl⟩
 have HNE:=Hd hnm2
 have znm:nm.size≤1048576:=by rw [← hnm2];exact hnm.out
 have HC1:=Hd (show cs[1]?=some (.string nm) by rw [← hnm2];exact hh.name)
 obtain ⟨w1,hw1⟩:∃ w1,w1=w.alloc (.cells cs.toArray 34):=⟨_,rfl⟩
 have HW:=Hd hw1
 have R0:=Hd (show RowT 34 w1 w.heap.size cs by rw [hw1];exact RowT.new w 34 cs)
 have H0:=Hd (show Below w.heap.size w w1 by rw [hw1];exact belowBox w _)
 have HKA:=Hd (show ∀ v,Below w.heap.size w v→B≤v.heap.size∧Env v∧ExprD.At v B N x cs from fun v hv=>⟨Nat.le_trans hB hv.size,HE.out.then hv,HX.out.below (hv.mono hB)⟩)
 have e0:=R0.out.cell HC0.out
 have e1:=R0.out.cell HC1.out
 rw [hw1] at e0 e1
 obtain ⟨s,hs⟩:∃ s,stepT f x=s:=⟨_,rfl⟩
 have HST:=Hd hs
 have HR:=Hd (show s=(⟨#[46,46]⟩:ByteArray) by
  rw [← HST.out]
  unfold stepT
  rw [HO.out]
  simp only [if_true,if_false,Int.reduceEq]
  skip)
 clear hx hE hh ho hnm2 hw1 hs
 go_enter Tryz.func24,Tryz.ntmps24
 go_wp2_with fail
 go_ret
 exact ⟨by rw [HST.out,HR.out];rfl,(by rw [← HW.out];exact H0.out)⟩
set_option maxRecDepth 100000 in
set_option maxHeartbeats 6400000 in
theorem src_4 (f:ExprD→ByteArray) (x:ExprD) (ho:x.op=4)
 (w:World) (B N:Nat) (cs:List Value) (hN:N≤1048576) (hB:B≤w.heap.size) (hE:Env w) (hx:ExprD.At w B N x cs):Calls Tryz.prog 24 #[.agg cs.toArray] w (StrB (stepT f x) w):=by
 have HX:=Hd hx
 have HE:=Hd hE
 have HO:=Hd ho
 have hl:=Hd (show (Tryz.prog.info? 34).map (·.size)=some cs.length by rw [hx.len];kernel_rfl)
 obtain ⟨aa,fa,ac,fc,vs,hh⟩:=hx.has
 have HC0:=Hd (show cs[0]?=some (.int .i64 4) by rw [← ho];exact hh.op)
 have hnm:=Hd (show x.name.size≤1048576 from Nat.le_trans hh.own.2.1 hN)
 obtain ⟨nm,hnm2⟩:∃ nm,x.name=nm:=⟨_,rfl⟩
 have HNE:=Hd hnm2
 have znm:nm.size≤1048576:=by rw [← hnm2];exact hnm.out
 have HC1:=Hd (show cs[1]?=some (.string nm) by rw [← hnm2];exact hh.name)
 obtain ⟨w1,hw1⟩:∃ w1,w1=w.alloc (.cells cs.toArray 34):=⟨_,rfl⟩
 have HW:=Hd hw1
 have R0:=Hd (show RowT 34 w1 w.heap.size cs by rw [hw1];exact RowT.new w 34 cs)
 have H0:=Hd (show Below w.heap.size w w1 by rw [hw1];exact belowBox w _)
 have HKA:=Hd (show ∀ v,Below w.heap.size w v→B≤v.heap.size∧Env v∧ExprD.At v B N x cs from fun v hv=>⟨Nat.le_trans hB hv.size,HE.out.then hv,HX.out.below (hv.mono hB)⟩)
 have e0:=R0.out.cell HC0.out
 have e1:=R0.out.cell HC1.out
 rw [hw1] at e0 e1
 obtain ⟨s,hs⟩:∃ s,stepT f x=s:=⟨_,rfl⟩
 have HST:=Hd hs
 have HR:=Hd (show s=⟨#[36]⟩++nm by
  rw [← HST.out]
  unfold stepT
  rw [HO.out]
  simp only [if_true,if_false,Int.reduceEq]
  rw [hnm2])
 clear hx hE hh ho hnm2 hw1 hs
 go_enter Tryz.func24,Tryz.ntmps24
 have sc1:(⟨#[36]⟩:ByteArray).size+(nm:ByteArray).size≤9223372036854775807:=by simp only [szl,List.size_toArray,List.length_cons,List.length_nil];omega
 go_wp2_with fail
 go_ret
 exact ⟨by rw [HST.out,HR.out];rfl,(by rw [← HW.out];exact H0.out)⟩
set_option maxRecDepth 100000 in
set_option maxHeartbeats 6400000 in
theorem src_6 (f:ExprD→ByteArray) (x:ExprD) (ho:x.op=6) (hn:x.args.length=2) (k0:KidR f (x.args.getD 0 default)) (k1:KidR f (x.args.getD 1 default))
 (w:World) (B N:Nat) (cs:List Value) (hN:N≤1048576) (hB:B≤w.heap.size) (hE:Env w) (hx:ExprD.At w B N x cs):Calls Tryz.prog 24 #[.agg cs.toArray] w (StrB (stepT f x) w):=by
 have HX:=Hd hx
 have HE:=Hd hE
 have HO:=Hd ho
 have K0:=Hd k0
 have K1:=Hd k1
 have hl:=Hd (show (Tryz.prog.info? 34).map (·.size)=some cs.length by rw [hx.len];kernel_rfl)
 obtain ⟨aa,fa,ac,fc,vs,hh⟩:=hx.has
 have HC0:=Hd (show cs[0]?=some (.int .i64 6) by rw [← ho];exact hh.op)
 have hnm:=Hd (show x.name.size≤1048576 from Nat.le_trans hh.own.2.1 hN)
 obtain ⟨nm,hnm2⟩:∃ nm,x.name=nm:=⟨_,rfl⟩
 have HNE:=Hd hnm2
 have znm:nm.size≤1048576:=by rw [← hnm2];exact hnm.out
 have HC1:=Hd (show cs[1]?=some (.string nm) by rw [← hnm2];exact hh.name)
 obtain ⟨b,o,haa,hb,hget⟩:=args_at hh (n:=2) hn (by decide)
 have HC15:=Hd (show cs[15]?=some (.slice (some ⟨b,o,none⟩) 2 ac) by rw [hh.args,hn,haa])
 obtain ⟨a0,r0,q0⟩:=hget 0 (by decide)
 have HR0:=Hd (show CellsAt w b (o) a0 by simpa using r0)
 have HQ0:=Hd q0
 have hl0:=Hd (show (Tryz.prog.info? 34).map (·.size)=some a0.length by rw [q0.len];kernel_rfl)
 obtain ⟨a1,r1,q1⟩:=hget 1 (by decide)
 have HR1:=Hd (show CellsAt w b (o+17) a1 by simpa using r1)
 have HQ1:=Hd q1
 have hl1:=Hd (show (Tryz.prog.info? 34).map (·.size)=some a1.length by rw [q1.len];kernel_rfl)
 obtain ⟨w1,hw1⟩:∃ w1,w1=w.alloc (.cells cs.toArray 34):=⟨_,rfl⟩
 have HW:=Hd hw1
 have R0:=Hd (show RowT 34 w1 w.heap.size cs by rw [hw1];exact RowT.new w 34 cs)
 have H0:=Hd (show Below w.heap.size w w1 by rw [hw1];exact belowBox w _)
 have HKA:=Hd (show ∀ v,Below w.heap.size w v→B≤v.heap.size∧Env v∧ExprD.At v B N (x.args.getD 0 default) a0∧ExprD.At v B N (x.args.getD 1 default) a1∧ExprD.At v B N x cs from fun v hv=>⟨Nat.le_trans hB hv.size,HE.out.then hv,HQ0.out.below (hv.mono hB),HQ1.out.below (hv.mono hB),HX.out.below (hv.mono hB)⟩)
 have e0:=R0.out.cell HC0.out
 have e1:=R0.out.cell HC1.out
 have e15:=R0.out.cell HC15.out
 rw [hw1] at e0 e1 e15
 obtain ⟨s,hs⟩:∃ s,stepT f x=s:=⟨_,rfl⟩
 have HST:=Hd hs
 obtain ⟨s0,hs0⟩:∃ z,atS f 10 (x.args.getD 0 default)=z:=⟨_,rfl⟩
 have HS0:=Hd hs0
 have zs0:s0.size≤274877906960:=by rw [← hs0];exact Nat.le_trans (atS_le f _ _) (Nat.le_trans (Nat.add_le_add_right K0.out.size 2) (by decide))
 obtain ⟨s1,hs1⟩:∃ z,f (x.args.getD 1 default)=z:=⟨_,rfl⟩
 have HS1:=Hd hs1
 have zs1:s1.size≤274877906960:=by rw [← hs1];exact Nat.le_trans K1.out.size (by decide)
 have HR:=Hd (show s=s0++⟨#[91]⟩++s1++⟨#[93]⟩ by
  rw [← HST.out]
  unfold stepT
  rw [HO.out]
  simp only [if_true,if_false,Int.reduceEq]
  rw [hs0,hs1])
 clear hx hE hh ho hnm2 hw1 hs hn haa hget k0 k1 hs0 hs1
 go_enter Tryz.func24,Tryz.ntmps24
 go_wp2_with fail
 rw [← HW.out]
 refine wp_region_held_drew (S:=fun u=>Below w1.heap.size w1 u) (by kernel_rfl) (drewU w1) (fun hHeld=>?_)
 refine' tk 0 (.pointer (some ⟨w.heap.size,15,none⟩)) rfl rfl (.inl ⟨by rfl,fun u hu=>(by go_simp)⟩) hHeld ?_
 simp only [sq1,sq0]
 refine' tk 1 (.slice (some ⟨b,o,none⟩) 2 ac) rfl rfl (.inl ⟨by rfl,fun u hu=>(by have hc:=(R0.out.then hu).cell HC15.out;go_simp)⟩) hHeld ?_
 simp only [sq1,sq0]
 refine' tk 2 (.pointer (some ⟨b,o,none⟩)) rfl rfl (.inl ⟨by rfl,fun u hu=>(by go_simp)⟩) hHeld ?_
 simp only [sq1,sq0]
 refine' tk 3 _ rfl rfl (yieldsIf_load_mid (by kernel_rfl) 34 _ rfl (b) (o) rfl a0 _ (fun u hu=>(HR0.out.below ((belowThen H0.out hu).mono hB) hb).range) Tryz.underlying34 rfl hl0.out) hHeld ?_
 simp only [sq1,sq0]
 refine' tk 6 (.pointer (some ⟨w.heap.size,15,none⟩)) rfl rfl (.inl ⟨by rfl,fun u hu=>(by go_simp)⟩) hHeld ?_
 simp only [sq1,sq0]
 refine' tk 7 (.slice (some ⟨b,o,none⟩) 2 ac) rfl rfl (.inl ⟨by rfl,fun u hu=>(by have hc:=(R0.out.then hu).cell HC15.out;go_simp)⟩) hHeld ?_
 simp only [sq1,sq0]
 refine' tk 8 (.pointer (some ⟨b,o+17,none⟩)) rfl rfl (.inl ⟨by rfl,fun u hu=>(by go_simp)⟩) hHeld ?_
 simp only [sq1,sq0]
 refine' tk 9 _ rfl rfl (yieldsIf_load_mid (by kernel_rfl) 34 _ rfl (b) (o+17) rfl a1 _ (fun u hu=>(HR1.out.below ((belowThen H0.out hu).mono hB) hb).range) Tryz.underlying34 rfl hl1.out) hHeld ?_
 simp only [sq1,sq0]
 refine rd1 4 rfl (fun K hK=>?_)
 go_simp
 refine (at_r f _ K0.out 10 _ B N a0 hN (HKA.out _ (belowThen H0.out hHeld)).1 (HKA.out _ (belowThen H0.out hHeld)).2.1 (HKA.out _ (belowThen H0.out hHeld)).2.2.1).mono ?_
 rw [HS0.out]
 rintro e uC1 ⟨rfl,hbC⟩
 refine hK.out _ _ (belowThen hHeld hbC) (fun hHeld1=>?_)
 clear hK K hbC hHeld
 have hHeld:=hHeld1
 clear hHeld1
 refine' tk 5 (.string (s0++⟨#[91]⟩)) rfl rfl (.inl ⟨by rfl,fun u hu=>(by go_simp;all_goals omega)⟩) hHeld ?_
 simp only [sq1,sq0]
 refine rd1 10 rfl (fun K hK=>?_)
 go_simp
 refine (K1.out.call _ B N a1 hN (HKA.out _ (belowThen H0.out hHeld)).1 (HKA.out _ (belowThen H0.out hHeld)).2.1 (HKA.out _ (belowThen H0.out hHeld)).2.2.2.1).mono ?_
 rw [HS1.out]
 rintro e uC2 ⟨rfl,hbC⟩
 refine hK.out _ _ (belowThen hHeld hbC) (fun hHeld2=>?_)
 clear hK K hbC hHeld
 have hHeld:=hHeld2
 clear hHeld2
 refine' tk 11 (.string ((s0++⟨#[91]⟩)++s1)) rfl rfl (.inl ⟨by rfl,fun u hu=>(by go_simp;all_goals omega)⟩) hHeld ?_
 simp only [sq1,sq0]
 refine' tk 12 (.string (((s0++⟨#[91]⟩)++s1)++⟨#[93]⟩)) rfl rfl (.inl ⟨by rfl,fun u hu=>(by go_simp;all_goals omega)⟩) hHeld ?_
 simp only [sq1,sq0]
 refine rd1 13 rfl (fun K hK=>?_)
 go_simp
 refine hK.out _ _ hHeld (fun hHeldx=>?_)
 clear hK K hHeldx
 refine wpAnyH_done (by kernel_rfl) ?_ _
 go_wp2_with fail
 go_ret
 exact ⟨by rw [HST.out,HR.out];rfl,belowThen H0.out hHeld⟩
set_option maxRecDepth 100000 in
set_option maxHeartbeats 6400000 in
theorem src_7 (f:ExprD→ByteArray) (x:ExprD) (ho:x.op=7) (hn:x.args.length=3) (k0:KidR f (x.args.getD 0 default)) (k1:AftR f (x.args.getD 1 default)) (k2:AftR f (x.args.getD 2 default))
 (w:World) (B N:Nat) (cs:List Value) (hN:N≤1048576) (hB:B≤w.heap.size) (hE:Env w) (hx:ExprD.At w B N x cs):Calls Tryz.prog 24 #[.agg cs.toArray] w (StrB (stepT f x) w):=by
 have HX:=Hd hx
 have HE:=Hd hE
 have HO:=Hd ho
 have K0:=Hd k0
 have K1:=Hd k1
 have K2:=Hd k2
 have hl:=Hd (show (Tryz.prog.info? 34).map (·.size)=some cs.length by rw [hx.len];kernel_rfl)
 obtain ⟨aa,fa,ac,fc,vs,hh⟩:=hx.has
 have HC0:=Hd (show cs[0]?=some (.int .i64 7) by rw [← ho];exact hh.op)
 have hnm:=Hd (show x.name.size≤1048576 from Nat.le_trans hh.own.2.1 hN)
 obtain ⟨nm,hnm2⟩:∃ nm,x.name=nm:=⟨_,rfl⟩
 have HNE:=Hd hnm2
 have znm:nm.size≤1048576:=by rw [← hnm2];exact hnm.out
 have HC1:=Hd (show cs[1]?=some (.string nm) by rw [← hnm2];exact hh.name)
 obtain ⟨b,o,haa,hb,hget⟩:=args_at hh (n:=3) hn (by decide)
 have HC15:=Hd (show cs[15]?=some (.slice (some ⟨b,o,none⟩) 3 ac) by rw [hh.args,hn,haa])
 obtain ⟨a0,r0,q0⟩:=hget 0 (by decide)
 have HR0:=Hd (show CellsAt w b (o) a0 by simpa using r0)
 have HQ0:=Hd q0
 have hl0:=Hd (show (Tryz.prog.info? 34).map (·.size)=some a0.length by rw [q0.len];kernel_rfl)
 obtain ⟨a1,r1,q1⟩:=hget 1 (by decide)
 have HR1:=Hd (show CellsAt w b (o+17) a1 by simpa using r1)
 have HQ1:=Hd q1
 have hl1:=Hd (show (Tryz.prog.info? 34).map (·.size)=some a1.length by rw [q1.len];kernel_rfl)
 obtain ⟨a2,r2,q2⟩:=hget 2 (by decide)
 have HR2:=Hd (show CellsAt w b (o+34) a2 by simpa using r2)
 have HQ2:=Hd q2
 have hl2:=Hd (show (Tryz.prog.info? 34).map (·.size)=some a2.length by rw [q2.len];kernel_rfl)
 obtain ⟨w1,hw1⟩:∃ w1,w1=w.alloc (.cells cs.toArray 34):=⟨_,rfl⟩
 have HW:=Hd hw1
 have R0:=Hd (show RowT 34 w1 w.heap.size cs by rw [hw1];exact RowT.new w 34 cs)
 have H0:=Hd (show Below w.heap.size w w1 by rw [hw1];exact belowBox w _)
 have HKA:=Hd (show ∀ v,Below w.heap.size w v→B≤v.heap.size∧Env v∧ExprD.At v B N (x.args.getD 0 default) a0∧ExprD.At v B N (x.args.getD 1 default) a1∧ExprD.At v B N (x.args.getD 2 default) a2∧ExprD.At v B N x cs from fun v hv=>⟨Nat.le_trans hB hv.size,HE.out.then hv,HQ0.out.below (hv.mono hB),HQ1.out.below (hv.mono hB),HQ2.out.below (hv.mono hB),HX.out.below (hv.mono hB)⟩)
 have e0:=R0.out.cell HC0.out
 have e1:=R0.out.cell HC1.out
 have e15:=R0.out.cell HC15.out
 rw [hw1] at e0 e1 e15
 obtain ⟨s,hs⟩:∃ s,stepT f x=s:=⟨_,rfl⟩
 have HST:=Hd hs
 obtain ⟨s0,hs0⟩:∃ z,atS f 10 (x.args.getD 0 default)=z:=⟨_,rfl⟩
 have HS0:=Hd hs0
 have zs0:s0.size≤274877906960:=by rw [← hs0];exact Nat.le_trans (atS_le f _ _) (Nat.le_trans (Nat.add_le_add_right K0.out.size 2) (by decide))
 obtain ⟨s1,hs1⟩:∃ z,aftS f ⟨#[]⟩ (x.args.getD 1 default)=z:=⟨_,rfl⟩
 have HS1:=Hd hs1
 have zs1:s1.size≤274877906960:=by rw [← hs1];exact aftS_le K1.out (by decide)
 obtain ⟨s2,hs2⟩:∃ z,aftS f ⟨#[]⟩ (x.args.getD 2 default)=z:=⟨_,rfl⟩
 have HS2:=Hd hs2
 have zs2:s2.size≤274877906960:=by rw [← hs2];exact aftS_le K2.out (by decide)
 have HR:=Hd (show s=s0++⟨#[91]⟩++s1++⟨#[58]⟩++s2++⟨#[93]⟩ by
  rw [← HST.out]
  unfold stepT
  rw [HO.out]
  simp only [if_true,if_false,Int.reduceEq]
  rw [hs0,aft_pres,aft_pres,hs1,hs2])
 clear hx hE hh ho hnm2 hw1 hs hn haa hget k0 k1 k2 hs0 hs1 hs2
 go_enter Tryz.func24,Tryz.ntmps24
 go_wp2_with fail
 rw [← HW.out]
 refine wp_region_held_drew (S:=fun u=>Below w1.heap.size w1 u) (by kernel_rfl) (drewU w1) (fun hHeld=>?_)
 refine' tk 0 (.pointer (some ⟨w.heap.size,15,none⟩)) rfl rfl (.inl ⟨by rfl,fun u hu=>(by go_simp)⟩) hHeld ?_
 simp only [sq1,sq0]
 refine' tk 1 (.slice (some ⟨b,o,none⟩) 3 ac) rfl rfl (.inl ⟨by rfl,fun u hu=>(by have hc:=(R0.out.then hu).cell HC15.out;go_simp)⟩) hHeld ?_
 simp only [sq1,sq0]
 refine' tk 2 (.pointer (some ⟨b,o,none⟩)) rfl rfl (.inl ⟨by rfl,fun u hu=>(by go_simp)⟩) hHeld ?_
 simp only [sq1,sq0]
 refine' tk 3 _ rfl rfl (yieldsIf_load_mid (by kernel_rfl) 34 _ rfl (b) (o) rfl a0 _ (fun u hu=>(HR0.out.below ((belowThen H0.out hu).mono hB) hb).range) Tryz.underlying34 rfl hl0.out) hHeld ?_
 simp only [sq1,sq0]
 refine' tk 6 (.pointer (some ⟨w.heap.size,15,none⟩)) rfl rfl (.inl ⟨by rfl,fun u hu=>(by go_simp)⟩) hHeld ?_
 simp only [sq1,sq0]
 refine' tk 7 (.slice (some ⟨b,o,none⟩) 3 ac) rfl rfl (.inl ⟨by rfl,fun u hu=>(by have hc:=(R0.out.then hu).cell HC15.out;go_simp)⟩) hHeld ?_
 simp only [sq1,sq0]
 refine' tk 8 (.pointer (some ⟨b,o+17,none⟩)) rfl rfl (.inl ⟨by rfl,fun u hu=>(by go_simp)⟩) hHeld ?_
 simp only [sq1,sq0]
 refine' tk 9 _ rfl rfl (yieldsIf_load_mid (by kernel_rfl) 34 _ rfl (b) (o+17) rfl a1 _ (fun u hu=>(HR1.out.below ((belowThen H0.out hu).mono hB) hb).range) Tryz.underlying34 rfl hl1.out) hHeld ?_
 simp only [sq1,sq0]
 refine' tk 13 (.pointer (some ⟨w.heap.size,15,none⟩)) rfl rfl (.inl ⟨by rfl,fun u hu=>(by go_simp)⟩) hHeld ?_
 simp only [sq1,sq0]
 refine' tk 14 (.slice (some ⟨b,o,none⟩) 3 ac) rfl rfl (.inl ⟨by rfl,fun u hu=>(by have hc:=(R0.out.then hu).cell HC15.out;go_simp)⟩) hHeld ?_
 simp only [sq1,sq0]
 refine' tk 15 (.pointer (some ⟨b,o+34,none⟩)) rfl rfl (.inl ⟨by rfl,fun u hu=>(by go_simp)⟩) hHeld ?_
 simp only [sq1,sq0]
 refine' tk 16 _ rfl rfl (yieldsIf_load_mid (by kernel_rfl) 34 _ rfl (b) (o+34) rfl a2 _ (fun u hu=>(HR2.out.below ((belowThen H0.out hu).mono hB) hb).range) Tryz.underlying34 rfl hl2.out) hHeld ?_
 simp only [sq1,sq0]
 refine rd1 4 rfl (fun K hK=>?_)
 go_simp
 refine (at_r f _ K0.out 10 _ B N a0 hN (HKA.out _ (belowThen H0.out hHeld)).1 (HKA.out _ (belowThen H0.out hHeld)).2.1 (HKA.out _ (belowThen H0.out hHeld)).2.2.1).mono ?_
 rw [HS0.out]
 rintro e uC1 ⟨rfl,hbC⟩
 refine hK.out _ _ (belowThen hHeld hbC) (fun hHeld1=>?_)
 clear hK K hbC hHeld
 have hHeld:=hHeld1
 clear hHeld1
 refine' tk 5 (.string (s0++⟨#[91]⟩)) rfl rfl (.inl ⟨by rfl,fun u hu=>(by go_simp;all_goals omega)⟩) hHeld ?_
 simp only [sq1,sq0]
 refine rd1 10 rfl (fun K hK=>?_)
 go_simp
 refine (after_r f ⟨#[]⟩ (by decide) _ K1.out _ B N a1 hN (HKA.out _ (belowThen H0.out hHeld)).1 (HKA.out _ (belowThen H0.out hHeld)).2.1 (HKA.out _ (belowThen H0.out hHeld)).2.2.2.1).mono ?_
 rw [HS1.out]
 rintro e uC2 ⟨rfl,hbC⟩
 refine hK.out _ _ (belowThen hHeld hbC) (fun hHeld2=>?_)
 clear hK K hbC hHeld
 have hHeld:=hHeld2
 clear hHeld2
 refine' tk 11 (.string ((s0++⟨#[91]⟩)++s1)) rfl rfl (.inl ⟨by rfl,fun u hu=>(by go_simp;all_goals omega)⟩) hHeld ?_
 simp only [sq1,sq0]
 refine' tk 12 (.string (((s0++⟨#[91]⟩)++s1)++⟨#[58]⟩)) rfl rfl (.inl ⟨by rfl,fun u hu=>(by go_simp;all_goals omega)⟩) hHeld ?_
 simp only [sq1,sq0]
 refine rd1 17 rfl (fun K hK=>?_)
 go_simp
 refine (after_r f ⟨#[]⟩ (by decide) _ K2.out _ B N a2 hN (HKA.out _ (belowThen H0.out hHeld)).1 (HKA.out _ (belowThen H0.out hHeld)).2.1 (HKA.out _ (belowThen H0.out hHeld)).2.2.2.2.1).mono ?_
 rw [HS2.out]
 rintro e uC3 ⟨rfl,hbC⟩
 refine hK.out _ _ (belowThen hHeld hbC) (fun hHeld3=>?_)
 clear hK K hbC hHeld
 have hHeld:=hHeld3
 clear hHeld3
 refine' tk 18 (.string ((((s0++⟨#[91]⟩)++s1)++⟨#[58]⟩)++s2)) rfl rfl (.inl ⟨by rfl,fun u hu=>(by go_simp;all_goals omega)⟩) hHeld ?_
 simp only [sq1,sq0]
 refine' tk 19 (.string (((((s0++⟨#[91]⟩)++s1)++⟨#[58]⟩)++s2)++⟨#[93]⟩)) rfl rfl (.inl ⟨by rfl,fun u hu=>(by go_simp;all_goals omega)⟩) hHeld ?_
 simp only [sq1,sq0]
 refine rd1 20 rfl (fun K hK=>?_)
 go_simp
 refine hK.out _ _ hHeld (fun hHeldx=>?_)
 clear hK K hHeldx
 refine wpAnyH_done (by kernel_rfl) ?_ _
 go_wp2_with fail
 go_ret
 exact ⟨by rw [HST.out,HR.out];rfl,belowThen H0.out hHeld⟩
set_option maxRecDepth 100000 in
set_option maxHeartbeats 6400000 in
theorem src_8 (f:ExprD→ByteArray) (x:ExprD) (ho:x.op=8) (hn:x.args.length=1) (k0:KidR f (x.args.getD 0 default))
 (w:World) (B N:Nat) (cs:List Value) (hN:N≤1048576) (hB:B≤w.heap.size) (hE:Env w) (hx:ExprD.At w B N x cs):Calls Tryz.prog 24 #[.agg cs.toArray] w (StrB (stepT f x) w):=by
 have HX:=Hd hx
 have HE:=Hd hE
 have HO:=Hd ho
 have K0:=Hd k0
 have hl:=Hd (show (Tryz.prog.info? 34).map (·.size)=some cs.length by rw [hx.len];kernel_rfl)
 obtain ⟨aa,fa,ac,fc,vs,hh⟩:=hx.has
 have HC0:=Hd (show cs[0]?=some (.int .i64 8) by rw [← ho];exact hh.op)
 have hnm:=Hd (show x.name.size≤1048576 from Nat.le_trans hh.own.2.1 hN)
 obtain ⟨nm,hnm2⟩:∃ nm,x.name=nm:=⟨_,rfl⟩
 have HNE:=Hd hnm2
 have znm:nm.size≤1048576:=by rw [← hnm2];exact hnm.out
 have HC1:=Hd (show cs[1]?=some (.string nm) by rw [← hnm2];exact hh.name)
 obtain ⟨b,o,haa,hb,hget⟩:=args_at hh (n:=1) hn (by decide)
 have HC15:=Hd (show cs[15]?=some (.slice (some ⟨b,o,none⟩) 1 ac) by rw [hh.args,hn,haa])
 obtain ⟨a0,r0,q0⟩:=hget 0 (by decide)
 have HR0:=Hd (show CellsAt w b (o) a0 by simpa using r0)
 have HQ0:=Hd q0
 have hl0:=Hd (show (Tryz.prog.info? 34).map (·.size)=some a0.length by rw [q0.len];kernel_rfl)
 obtain ⟨w1,hw1⟩:∃ w1,w1=w.alloc (.cells cs.toArray 34):=⟨_,rfl⟩
 have HW:=Hd hw1
 have R0:=Hd (show RowT 34 w1 w.heap.size cs by rw [hw1];exact RowT.new w 34 cs)
 have H0:=Hd (show Below w.heap.size w w1 by rw [hw1];exact belowBox w _)
 have HKA:=Hd (show ∀ v,Below w.heap.size w v→B≤v.heap.size∧Env v∧ExprD.At v B N (x.args.getD 0 default) a0∧ExprD.At v B N x cs from fun v hv=>⟨Nat.le_trans hB hv.size,HE.out.then hv,HQ0.out.below (hv.mono hB),HX.out.below (hv.mono hB)⟩)
 have e0:=R0.out.cell HC0.out
 have e1:=R0.out.cell HC1.out
 have e15:=R0.out.cell HC15.out
 rw [hw1] at e0 e1 e15
 obtain ⟨s,hs⟩:∃ s,stepT f x=s:=⟨_,rfl⟩
 have HST:=Hd hs
 obtain ⟨s0,hs0⟩:∃ z,atS f 10 (x.args.getD 0 default)=z:=⟨_,rfl⟩
 have HS0:=Hd hs0
 have zs0:s0.size≤274877906960:=by rw [← hs0];exact Nat.le_trans (atS_le f _ _) (Nat.le_trans (Nat.add_le_add_right K0.out.size 2) (by decide))
 have HR:=Hd (show s=s0++⟨#[91,93]⟩ by
  rw [← HST.out]
  unfold stepT
  rw [HO.out]
  simp only [if_true,if_false,Int.reduceEq]
  rw [hs0])
 clear hx hE hh ho hnm2 hw1 hs hn haa hget k0 hs0
 go_enter Tryz.func24,Tryz.ntmps24
 go_wp2_with ((with_reducible show wpList _ _ _ (⟨some 66,_,_,_,_,_⟩::_) _ _);refine wpList_load_mid rfl 34 _ rfl b (o) rfl a0 _ (by rw [← HW.out];exact (HR0.out.below (H0.out.mono hB) hb).range) Tryz.underlying34 rfl hl0.out ?_)
 rw [← HW.out]
 refine (at_r f _ K0.out 10 _ B N a0 hN (HKA.out _ H0.out).1 (HKA.out _ H0.out).2.1 (HKA.out _ H0.out).2.2.1).mono ?_
 rw [HS0.out]
 rintro e wu ⟨rfl,hb1⟩
 have Hwu:=Hd (belowThen H0.out hb1)
 clear hb1
 have sc1:(s0:ByteArray).size+(⟨#[91,93]⟩:ByteArray).size≤9223372036854775807:=by simp only [szl,List.size_toArray,List.length_cons,List.length_nil];omega
 go_wp2_with fail
 go_ret
 exact ⟨by rw [HST.out,HR.out];rfl,Hwu.out⟩
set_option maxRecDepth 100000 in
set_option maxHeartbeats 6400000 in
theorem src_11 (f:ExprD→ByteArray) (x:ExprD) (ho:x.op=11) (hn:x.args.length=1) (k0:KidR f (x.args.getD 0 default))
 (w:World) (B N:Nat) (cs:List Value) (hN:N≤1048576) (hB:B≤w.heap.size) (hE:Env w) (hx:ExprD.At w B N x cs):Calls Tryz.prog 24 #[.agg cs.toArray] w (StrB (stepT f x) w):=by
 have HX:=Hd hx
 have HE:=Hd hE
 have HO:=Hd ho
 have K0:=Hd k0
 have hl:=Hd (show (Tryz.prog.info? 34).map (·.size)=some cs.length by rw [hx.len];kernel_rfl)
 obtain ⟨aa,fa,ac,fc,vs,hh⟩:=hx.has
 have HC0:=Hd (show cs[0]?=some (.int .i64 11) by rw [← ho];exact hh.op)
 have hnm:=Hd (show x.name.size≤1048576 from Nat.le_trans hh.own.2.1 hN)
 obtain ⟨nm,hnm2⟩:∃ nm,x.name=nm:=⟨_,rfl⟩
 have HNE:=Hd hnm2
 have znm:nm.size≤1048576:=by rw [← hnm2];exact hnm.out
 have HC1:=Hd (show cs[1]?=some (.string nm) by rw [← hnm2];exact hh.name)
 obtain ⟨b,o,haa,hb,hget⟩:=args_at hh (n:=1) hn (by decide)
 have HC15:=Hd (show cs[15]?=some (.slice (some ⟨b,o,none⟩) 1 ac) by rw [hh.args,hn,haa])
 obtain ⟨a0,r0,q0⟩:=hget 0 (by decide)
 have HR0:=Hd (show CellsAt w b (o) a0 by simpa using r0)
 have HQ0:=Hd q0
 have hl0:=Hd (show (Tryz.prog.info? 34).map (·.size)=some a0.length by rw [q0.len];kernel_rfl)
 obtain ⟨w1,hw1⟩:∃ w1,w1=w.alloc (.cells cs.toArray 34):=⟨_,rfl⟩
 have HW:=Hd hw1
 have R0:=Hd (show RowT 34 w1 w.heap.size cs by rw [hw1];exact RowT.new w 34 cs)
 have H0:=Hd (show Below w.heap.size w w1 by rw [hw1];exact belowBox w _)
 have HKA:=Hd (show ∀ v,Below w.heap.size w v→B≤v.heap.size∧Env v∧ExprD.At v B N (x.args.getD 0 default) a0∧ExprD.At v B N x cs from fun v hv=>⟨Nat.le_trans hB hv.size,HE.out.then hv,HQ0.out.below (hv.mono hB),HX.out.below (hv.mono hB)⟩)
 have e0:=R0.out.cell HC0.out
 have e1:=R0.out.cell HC1.out
 have e15:=R0.out.cell HC15.out
 rw [hw1] at e0 e1 e15
 obtain ⟨s,hs⟩:∃ s,stepT f x=s:=⟨_,rfl⟩
 have HST:=Hd hs
 obtain ⟨s0,hs0⟩:∃ z,atS f 9 (x.args.getD 0 default)=z:=⟨_,rfl⟩
 have HS0:=Hd hs0
 have zs0:s0.size≤274877906960:=by rw [← hs0];exact Nat.le_trans (atS_le f _ _) (Nat.le_trans (Nat.add_le_add_right K0.out.size 2) (by decide))
 have HR:=Hd (show s=⟨#[45]⟩++s0 by
  rw [← HST.out]
  unfold stepT
  rw [HO.out]
  simp only [if_true,if_false,Int.reduceEq]
  rw [hs0])
 clear hx hE hh ho hnm2 hw1 hs hn haa hget k0 hs0
 go_enter Tryz.func24,Tryz.ntmps24
 go_wp2_with ((with_reducible show wpList _ _ _ (⟨some 74,_,_,_,_,_⟩::_) _ _);refine wpList_load_mid rfl 34 _ rfl b (o) rfl a0 _ (by rw [← HW.out];exact (HR0.out.below (H0.out.mono hB) hb).range) Tryz.underlying34 rfl hl0.out ?_)
 rw [← HW.out]
 refine (at_r f _ K0.out 9 _ B N a0 hN (HKA.out _ H0.out).1 (HKA.out _ H0.out).2.1 (HKA.out _ H0.out).2.2.1).mono ?_
 rw [HS0.out]
 rintro e wu ⟨rfl,hb1⟩
 have Hwu:=Hd (belowThen H0.out hb1)
 clear hb1
 have sc1:(⟨#[45]⟩:ByteArray).size+(s0:ByteArray).size≤9223372036854775807:=by simp only [szl,List.size_toArray,List.length_cons,List.length_nil];omega
 go_wp2_with fail
 go_ret
 exact ⟨by rw [HST.out,HR.out];rfl,Hwu.out⟩
set_option maxRecDepth 100000 in
set_option maxHeartbeats 6400000 in
theorem src_24 (f:ExprD→ByteArray) (x:ExprD) (ho:x.op=24) (hn:x.args.length=1) (k0:AftR f (x.args.getD 0 default))
 (w:World) (B N:Nat) (cs:List Value) (hN:N≤1048576) (hB:B≤w.heap.size) (hE:Env w) (hx:ExprD.At w B N x cs):Calls Tryz.prog 24 #[.agg cs.toArray] w (StrB (stepT f x) w):=by
 have HX:=Hd hx
 have HE:=Hd hE
 have HO:=Hd ho
 have K0:=Hd k0
 have hl:=Hd (show (Tryz.prog.info? 34).map (·.size)=some cs.length by rw [hx.len];kernel_rfl)
 obtain ⟨aa,fa,ac,fc,vs,hh⟩:=hx.has
 have HC0:=Hd (show cs[0]?=some (.int .i64 24) by rw [← ho];exact hh.op)
 have hnm:=Hd (show x.name.size≤1048576 from Nat.le_trans hh.own.2.1 hN)
 obtain ⟨nm,hnm2⟩:∃ nm,x.name=nm:=⟨_,rfl⟩
 have HNE:=Hd hnm2
 have znm:nm.size≤1048576:=by rw [← hnm2];exact hnm.out
 have HC1:=Hd (show cs[1]?=some (.string nm) by rw [← hnm2];exact hh.name)
 obtain ⟨b,o,haa,hb,hget⟩:=args_at hh (n:=1) hn (by decide)
 have HC15:=Hd (show cs[15]?=some (.slice (some ⟨b,o,none⟩) 1 ac) by rw [hh.args,hn,haa])
 obtain ⟨a0,r0,q0⟩:=hget 0 (by decide)
 have HR0:=Hd (show CellsAt w b (o) a0 by simpa using r0)
 have HQ0:=Hd q0
 have hl0:=Hd (show (Tryz.prog.info? 34).map (·.size)=some a0.length by rw [q0.len];kernel_rfl)
 obtain ⟨w1,hw1⟩:∃ w1,w1=w.alloc (.cells cs.toArray 34):=⟨_,rfl⟩
 have HW:=Hd hw1
 have R0:=Hd (show RowT 34 w1 w.heap.size cs by rw [hw1];exact RowT.new w 34 cs)
 have H0:=Hd (show Below w.heap.size w w1 by rw [hw1];exact belowBox w _)
 have HKA:=Hd (show ∀ v,Below w.heap.size w v→B≤v.heap.size∧Env v∧ExprD.At v B N (x.args.getD 0 default) a0∧ExprD.At v B N x cs from fun v hv=>⟨Nat.le_trans hB hv.size,HE.out.then hv,HQ0.out.below (hv.mono hB),HX.out.below (hv.mono hB)⟩)
 have e0:=R0.out.cell HC0.out
 have e1:=R0.out.cell HC1.out
 have e15:=R0.out.cell HC15.out
 rw [hw1] at e0 e1 e15
 obtain ⟨s,hs⟩:∃ s,stepT f x=s:=⟨_,rfl⟩
 have HST:=Hd hs
 obtain ⟨s0,hs0⟩:∃ z,aftS f ⟨#[]⟩ (x.args.getD 0 default)=z:=⟨_,rfl⟩
 have HS0:=Hd hs0
 have zs0:s0.size≤274877906960:=by rw [← hs0];exact aftS_le K0.out (by decide)
 have HR:=Hd (show s=⟨#[91]⟩++s0++⟨#[93]⟩ by
  rw [← HST.out]
  unfold stepT
  rw [HO.out]
  simp only [if_true,if_false,Int.reduceEq]
  rw [aft_pres,hs0])
 clear hx hE hh ho hnm2 hw1 hs hn haa hget k0 hs0
 go_enter Tryz.func24,Tryz.ntmps24
 go_wp2_with ((with_reducible show wpList _ _ _ (⟨some 86,_,_,_,_,_⟩::_) _ _);refine wpList_load_mid rfl 34 _ rfl b (o) rfl a0 _ (by rw [← HW.out];exact (HR0.out.below (H0.out.mono hB) hb).range) Tryz.underlying34 rfl hl0.out ?_)
 rw [← HW.out]
 refine (after_r f ⟨#[]⟩ (by decide) _ K0.out _ B N a0 hN (HKA.out _ H0.out).1 (HKA.out _ H0.out).2.1 (HKA.out _ H0.out).2.2.1).mono ?_
 rw [HS0.out]
 rintro e wu ⟨rfl,hb1⟩
 have Hwu:=Hd (belowThen H0.out hb1)
 clear hb1
 have sc1:(⟨#[91]⟩:ByteArray).size+(s0:ByteArray).size≤9223372036854775807:=by simp only [szl,List.size_toArray,List.length_cons,List.length_nil];omega
 have sc2:(⟨#[91]⟩++s0:ByteArray).size+(⟨#[93]⟩:ByteArray).size≤9223372036854775807:=by (repeat rw [ByteArray.size_append]);simp only [szl,List.size_toArray,List.length_cons,List.length_nil];omega
 go_wp2_with fail
 go_ret
 exact ⟨by rw [HST.out,HR.out];rfl,Hwu.out⟩
set_option maxRecDepth 100000 in
set_option maxHeartbeats 6400000 in
theorem src_5 (f:ExprD→ByteArray) (x:ExprD) (ho:x.op=5) (hp:∀ (w:World) (B N:Nat) (cs:List Value),N≤1048576→B≤w.heap.size→Env w→ExprD.At w B N x cs→Calls Tryz.prog 65 #[.agg cs.toArray] w (StrB (stepT f x) w))
 (w:World) (B N:Nat) (cs:List Value) (hN:N≤1048576) (hB:B≤w.heap.size) (hE:Env w) (hx:ExprD.At w B N x cs):Calls Tryz.prog 24 #[.agg cs.toArray] w (StrB (stepT f x) w):=by
 have HX:=Hd hx
 have HE:=Hd hE
 have HO:=Hd ho
 have HP:=Hd hp
 have hl:=Hd (show (Tryz.prog.info? 34).map (·.size)=some cs.length by rw [hx.len];kernel_rfl)
 obtain ⟨aa,fa,ac,fc,vs,hh⟩:=hx.has
 have HC0:=Hd (show cs[0]?=some (.int .i64 5) by rw [← ho];exact hh.op)
 have hnm:=Hd (show x.name.size≤1048576 from Nat.le_trans hh.own.2.1 hN)
 obtain ⟨nm,hnm2⟩:∃ nm,x.name=nm:=⟨_,rfl⟩
 have HNE:=Hd hnm2
 have znm:nm.size≤1048576:=by rw [← hnm2];exact hnm.out
 have HC1:=Hd (show cs[1]?=some (.string nm) by rw [← hnm2];exact hh.name)
 obtain ⟨w1,hw1⟩:∃ w1,w1=w.alloc (.cells cs.toArray 34):=⟨_,rfl⟩
 have HW:=Hd hw1
 have R0:=Hd (show RowT 34 w1 w.heap.size cs by rw [hw1];exact RowT.new w 34 cs)
 have H0:=Hd (show Below w.heap.size w w1 by rw [hw1];exact belowBox w _)
 have HKA:=Hd (show ∀ v,Below w.heap.size w v→B≤v.heap.size∧Env v∧ExprD.At v B N x cs from fun v hv=>⟨Nat.le_trans hB hv.size,HE.out.then hv,HX.out.below (hv.mono hB)⟩)
 have e0:=R0.out.cell HC0.out
 have e1:=R0.out.cell HC1.out
 rw [hw1] at e0 e1
 obtain ⟨s,hs⟩:∃ s,stepT f x=s:=⟨_,rfl⟩
 have HST:=Hd hs
 clear hx hE hh ho hnm2 hw1 hs hp
 go_enter Tryz.func24,Tryz.ntmps24
 go_wp2_with ((with_reducible show wpList _ _ _ (⟨some 22,_,_,_,_,_⟩::_) _ _);refine wpList_load_mid rfl 34 _ rfl w.heap.size 0 rfl cs _ (by rw [← HW.out];exact R0.out.range) Tryz.underlying34 rfl hl.out ?_)
 rw [← HW.out]
 refine (HP.out _ B N cs hN (HKA.out _ H0.out).1 (HKA.out _ H0.out).2.1 (HKA.out _ H0.out).2.2).mono ?_
 rintro e wu ⟨rfl,hb1⟩
 have HU:=Hd (belowThen H0.out hb1)
 clear hb1
 go_wp2_with fail
 go_ret
 exact ⟨rfl,HU.out⟩
set_option maxRecDepth 100000 in
set_option maxHeartbeats 6400000 in
theorem src_21 (f:ExprD→ByteArray) (x:ExprD) (ho:x.op=21) (hp:∀ (w:World) (B N:Nat) (cs:List Value),N≤1048576→B≤w.heap.size→Env w→ExprD.At w B N x cs→Calls Tryz.prog 68 #[.agg cs.toArray] w (StrB (stepT f x) w))
 (w:World) (B N:Nat) (cs:List Value) (hN:N≤1048576) (hB:B≤w.heap.size) (hE:Env w) (hx:ExprD.At w B N x cs):Calls Tryz.prog 24 #[.agg cs.toArray] w (StrB (stepT f x) w):=by
 have HX:=Hd hx
 have HE:=Hd hE
 have HO:=Hd ho
 have HP:=Hd hp
 have hl:=Hd (show (Tryz.prog.info? 34).map (·.size)=some cs.length by rw [hx.len];kernel_rfl)
 obtain ⟨aa,fa,ac,fc,vs,hh⟩:=hx.has
 have HC0:=Hd (show cs[0]?=some (.int .i64 21) by rw [← ho];exact hh.op)
 have hnm:=Hd (show x.name.size≤1048576 from Nat.le_trans hh.own.2.1 hN)
 obtain ⟨nm,hnm2⟩:∃ nm,x.name=nm:=⟨_,rfl⟩
 have HNE:=Hd hnm2
 have znm:nm.size≤1048576:=by rw [← hnm2];exact hnm.out
 have HC1:=Hd (show cs[1]?=some (.string nm) by rw [← hnm2];exact hh.name)
 obtain ⟨w1,hw1⟩:∃ w1,w1=w.alloc (.cells cs.toArray 34):=⟨_,rfl⟩
 have HW:=Hd hw1
 have R0:=Hd (show RowT 34 w1 w.heap.size cs by rw [hw1];exact RowT.new w 34 cs)
 have H0:=Hd (show Below w.heap.size w w1 by rw [hw1];exact belowBox w _)
 have HKA:=Hd (show ∀ v,Below w.heap.size w v→B≤v.heap.size∧Env v∧ExprD.At v B N x cs from fun v hv=>⟨Nat.le_trans hB hv.size,HE.out.then hv,HX.out.below (hv.mono hB)⟩)
 have e0:=R0.out.cell HC0.out
 have e1:=R0.out.cell HC1.out
 rw [hw1] at e0 e1
 obtain ⟨s,hs⟩:∃ s,stepT f x=s:=⟨_,rfl⟩
 have HST:=Hd hs
 clear hx hE hh ho hnm2 hw1 hs hp
 go_enter Tryz.func24,Tryz.ntmps24
 go_wp2_with ((with_reducible show wpList _ _ _ (⟨some 79,_,_,_,_,_⟩::_) _ _);refine wpList_load_mid rfl 34 _ rfl w.heap.size 0 rfl cs _ (by rw [← HW.out];exact R0.out.range) Tryz.underlying34 rfl hl.out ?_)
 rw [← HW.out]
 refine (HP.out _ B N cs hN (HKA.out _ H0.out).1 (HKA.out _ H0.out).2.1 (HKA.out _ H0.out).2.2).mono ?_
 rintro e wu ⟨rfl,hb1⟩
 have HU:=Hd (belowThen H0.out hb1)
 clear hb1
 go_wp2_with fail
 go_ret
 exact ⟨rfl,HU.out⟩
set_option maxRecDepth 100000 in
set_option maxHeartbeats 6400000 in
theorem src_25 (f:ExprD→ByteArray) (x:ExprD) (ho:x.op=25) (hp:∀ (w:World) (B N:Nat) (cs:List Value),N≤1048576→B≤w.heap.size→Env w→ExprD.At w B N x cs→Calls Tryz.prog 69 #[.agg cs.toArray] w (StrB (stepT f x) w))
 (w:World) (B N:Nat) (cs:List Value) (hN:N≤1048576) (hB:B≤w.heap.size) (hE:Env w) (hx:ExprD.At w B N x cs):Calls Tryz.prog 24 #[.agg cs.toArray] w (StrB (stepT f x) w):=by
 have HX:=Hd hx
 have HE:=Hd hE
 have HO:=Hd ho
 have HP:=Hd hp
 have hl:=Hd (show (Tryz.prog.info? 34).map (·.size)=some cs.length by rw [hx.len];kernel_rfl)
 obtain ⟨aa,fa,ac,fc,vs,hh⟩:=hx.has
 have HC0:=Hd (show cs[0]?=some (.int .i64 25) by rw [← ho];exact hh.op)
 have hnm:=Hd (show x.name.size≤1048576 from Nat.le_trans hh.own.2.1 hN)
 obtain ⟨nm,hnm2⟩:∃ nm,x.name=nm:=⟨_,rfl⟩
 have HNE:=Hd hnm2
 have znm:nm.size≤1048576:=by rw [← hnm2];exact hnm.out
 have HC1:=Hd (show cs[1]?=some (.string nm) by rw [← hnm2];exact hh.name)
 obtain ⟨w1,hw1⟩:∃ w1,w1=w.alloc (.cells cs.toArray 34):=⟨_,rfl⟩
 have HW:=Hd hw1
 have R0:=Hd (show RowT 34 w1 w.heap.size cs by rw [hw1];exact RowT.new w 34 cs)
 have H0:=Hd (show Below w.heap.size w w1 by rw [hw1];exact belowBox w _)
 have HKA:=Hd (show ∀ v,Below w.heap.size w v→B≤v.heap.size∧Env v∧ExprD.At v B N x cs from fun v hv=>⟨Nat.le_trans hB hv.size,HE.out.then hv,HX.out.below (hv.mono hB)⟩)
 have e0:=R0.out.cell HC0.out
 have e1:=R0.out.cell HC1.out
 rw [hw1] at e0 e1
 obtain ⟨s,hs⟩:∃ s,stepT f x=s:=⟨_,rfl⟩
 have HST:=Hd hs
 clear hx hE hh ho hnm2 hw1 hs hp
 go_enter Tryz.func24,Tryz.ntmps24
 go_wp2_with ((with_reducible show wpList _ _ _ (⟨some 92,_,_,_,_,_⟩::_) _ _);refine wpList_load_mid rfl 34 _ rfl w.heap.size 0 rfl cs _ (by rw [← HW.out];exact R0.out.range) Tryz.underlying34 rfl hl.out ?_)
 rw [← HW.out]
 refine (HP.out _ B N cs hN (HKA.out _ H0.out).1 (HKA.out _ H0.out).2.1 (HKA.out _ H0.out).2.2).mono ?_
 rintro e wu ⟨rfl,hb1⟩
 have HU:=Hd (belowThen H0.out hb1)
 clear hb1
 go_wp2_with fail
 go_ret
 exact ⟨rfl,HU.out⟩
set_option maxRecDepth 100000 in
set_option maxHeartbeats 6400000 in
theorem src_9 (f:ExprD→ByteArray) (x:ExprD) (ho:x.op=9) (hp:∀ (w:World) (B N:Nat) (cs:List Value),N≤1048576→B≤w.heap.size→Env w→ExprD.At w B N x cs→Calls Tryz.prog 70 #[.agg cs.toArray] w (StrB (stepT f x) w)) (hz:0<(stepT f x).size)
 (w:World) (B N:Nat) (cs:List Value) (hN:N≤1048576) (hB:B≤w.heap.size) (hE:Env w) (hx:ExprD.At w B N x cs):Calls Tryz.prog 24 #[.agg cs.toArray] w (StrB (stepT f x) w):=by
 have HX:=Hd hx
 have HE:=Hd hE
 have HO:=Hd ho
 have HP:=Hd hp
 have hl:=Hd (show (Tryz.prog.info? 34).map (·.size)=some cs.length by rw [hx.len];kernel_rfl)
 obtain ⟨aa,fa,ac,fc,vs,hh⟩:=hx.has
 have HC0:=Hd (show cs[0]?=some (.int .i64 9) by rw [← ho];exact hh.op)
 have hnm:=Hd (show x.name.size≤1048576 from Nat.le_trans hh.own.2.1 hN)
 obtain ⟨nm,hnm2⟩:∃ nm,x.name=nm:=⟨_,rfl⟩
 have HNE:=Hd hnm2
 have znm:nm.size≤1048576:=by rw [← hnm2];exact hnm.out
 have HC1:=Hd (show cs[1]?=some (.string nm) by rw [← hnm2];exact hh.name)
 obtain ⟨w1,hw1⟩:∃ w1,w1=w.alloc (.cells cs.toArray 34):=⟨_,rfl⟩
 have HW:=Hd hw1
 have R0:=Hd (show RowT 34 w1 w.heap.size cs by rw [hw1];exact RowT.new w 34 cs)
 have H0:=Hd (show Below w.heap.size w w1 by rw [hw1];exact belowBox w _)
 have HKA:=Hd (show ∀ v,Below w.heap.size w v→B≤v.heap.size∧Env v∧ExprD.At v B N x cs from fun v hv=>⟨Nat.le_trans hB hv.size,HE.out.then hv,HX.out.below (hv.mono hB)⟩)
 have e0:=R0.out.cell HC0.out
 have e1:=R0.out.cell HC1.out
 rw [hw1] at e0 e1
 obtain ⟨s,hs⟩:∃ s,stepT f x=s:=⟨_,rfl⟩
 have HST:=Hd hs
 have n1:¬ s.toList=[]:=by rw [← hs];exact ne_toList hz
 have n2:(s.toList==[])=false:=by simp [n1]
 have n3:(s.toList != [])=true:=by simp [n1]
 have n4:s.toList.isEmpty=false:=by simp [n1]
 clear hx hE hh ho hnm2 hw1 hs hp hz
 go_enter Tryz.func24,Tryz.ntmps24
 go_wp2_with ((with_reducible show wpList _ _ _ (⟨some 94,_,_,_,_,_⟩::_) _ _);refine wpList_load_mid rfl 34 _ rfl w.heap.size 0 rfl cs _ (by rw [← HW.out];exact R0.out.range) Tryz.underlying34 rfl hl.out ?_)
 rw [← HW.out]
 refine (HP.out _ B N cs hN (HKA.out _ H0.out).1 (HKA.out _ H0.out).2.1 (HKA.out _ H0.out).2.2).mono ?_
 rw [HST.out]
 rintro e wu ⟨rfl,hb1⟩
 have HU:=Hd (belowThen H0.out hb1)
 clear hb1
 go_wp2_with fail
 go_ret
 exact ⟨by rw [HST.out];rfl,HU.out⟩
set_option maxRecDepth 100000 in
set_option maxHeartbeats 6400000 in
theorem src_10 (f:ExprD→ByteArray) (x:ExprD) (ho:x.op=10) (hp:∀ (w:World) (B N:Nat) (cs:List Value),N≤1048576→B≤w.heap.size→Env w→ExprD.At w B N x cs→Calls Tryz.prog 70 #[.agg cs.toArray] w (StrB (stepT f x) w)) (hz:0<(stepT f x).size)
 (w:World) (B N:Nat) (cs:List Value) (hN:N≤1048576) (hB:B≤w.heap.size) (hE:Env w) (hx:ExprD.At w B N x cs):Calls Tryz.prog 24 #[.agg cs.toArray] w (StrB (stepT f x) w):=by
 have HX:=Hd hx
 have HE:=Hd hE
 have HO:=Hd ho
 have HP:=Hd hp
 have hl:=Hd (show (Tryz.prog.info? 34).map (·.size)=some cs.length by rw [hx.len];kernel_rfl)
 obtain ⟨aa,fa,ac,fc,vs,hh⟩:=hx.has
 have HC0:=Hd (show cs[0]?=some (.int .i64 10) by rw [← ho];exact hh.op)
 have hnm:=Hd (show x.name.size≤1048576 from Nat.le_trans hh.own.2.1 hN)
 obtain ⟨nm,hnm2⟩:∃ nm,x.name=nm:=⟨_,rfl⟩
 have HNE:=Hd hnm2
 have znm:nm.size≤1048576:=by rw [← hnm2];exact hnm.out
 have HC1:=Hd (show cs[1]?=some (.string nm) by rw [← hnm2];exact hh.name)
 obtain ⟨w1,hw1⟩:∃ w1,w1=w.alloc (.cells cs.toArray 34):=⟨_,rfl⟩
 have HW:=Hd hw1
 have R0:=Hd (show RowT 34 w1 w.heap.size cs by rw [hw1];exact RowT.new w 34 cs)
 have H0:=Hd (show Below w.heap.size w w1 by rw [hw1];exact belowBox w _)
 have HKA:=Hd (show ∀ v,Below w.heap.size w v→B≤v.heap.size∧Env v∧ExprD.At v B N x cs from fun v hv=>⟨Nat.le_trans hB hv.size,HE.out.then hv,HX.out.below (hv.mono hB)⟩)
 have e0:=R0.out.cell HC0.out
 have e1:=R0.out.cell HC1.out
 rw [hw1] at e0 e1
 obtain ⟨s,hs⟩:∃ s,stepT f x=s:=⟨_,rfl⟩
 have HST:=Hd hs
 have n1:¬ s.toList=[]:=by rw [← hs];exact ne_toList hz
 have n2:(s.toList==[])=false:=by simp [n1]
 have n3:(s.toList != [])=true:=by simp [n1]
 have n4:s.toList.isEmpty=false:=by simp [n1]
 clear hx hE hh ho hnm2 hw1 hs hp hz
 go_enter Tryz.func24,Tryz.ntmps24
 go_wp2_with ((with_reducible show wpList _ _ _ (⟨some 94,_,_,_,_,_⟩::_) _ _);refine wpList_load_mid rfl 34 _ rfl w.heap.size 0 rfl cs _ (by rw [← HW.out];exact R0.out.range) Tryz.underlying34 rfl hl.out ?_)
 rw [← HW.out]
 refine (HP.out _ B N cs hN (HKA.out _ H0.out).1 (HKA.out _ H0.out).2.1 (HKA.out _ H0.out).2.2).mono ?_
 rw [HST.out]
 rintro e wu ⟨rfl,hb1⟩
 have HU:=Hd (belowThen H0.out hb1)
 clear hb1
 go_wp2_with fail
 go_ret
 exact ⟨by rw [HST.out];rfl,HU.out⟩
set_option maxRecDepth 100000 in
set_option maxHeartbeats 6400000 in
theorem src_16 (f:ExprD→ByteArray) (x:ExprD) (ho:x.op=16) (hp:∀ (w:World) (B N:Nat) (cs:List Value),N≤1048576→B≤w.heap.size→Env w→ExprD.At w B N x cs→Calls Tryz.prog 70 #[.agg cs.toArray] w (StrB (stepT f x) w)) (hz:0<(stepT f x).size)
 (w:World) (B N:Nat) (cs:List Value) (hN:N≤1048576) (hB:B≤w.heap.size) (hE:Env w) (hx:ExprD.At w B N x cs):Calls Tryz.prog 24 #[.agg cs.toArray] w (StrB (stepT f x) w):=by
 have HX:=Hd hx
 have HE:=Hd hE
 have HO:=Hd ho
 have HP:=Hd hp
 have hl:=Hd (show (Tryz.prog.info? 34).map (·.size)=some cs.length by rw [hx.len];kernel_rfl)
 obtain ⟨aa,fa,ac,fc,vs,hh⟩:=hx.has
 have HC0:=Hd (show cs[0]?=some (.int .i64 16) by rw [← ho];exact hh.op)
 have hnm:=Hd (show x.name.size≤1048576 from Nat.le_trans hh.own.2.1 hN)
 obtain ⟨nm,hnm2⟩:∃ nm,x.name=nm:=⟨_,rfl⟩
 have HNE:=Hd hnm2
 have znm:nm.size≤1048576:=by rw [← hnm2];exact hnm.out
 have HC1:=Hd (show cs[1]?=some (.string nm) by rw [← hnm2];exact hh.name)
 obtain ⟨w1,hw1⟩:∃ w1,w1=w.alloc (.cells cs.toArray 34):=⟨_,rfl⟩
 have HW:=Hd hw1
 have R0:=Hd (show RowT 34 w1 w.heap.size cs by rw [hw1];exact RowT.new w 34 cs)
 have H0:=Hd (show Below w.heap.size w w1 by rw [hw1];exact belowBox w _)
 have HKA:=Hd (show ∀ v,Below w.heap.size w v→B≤v.heap.size∧Env v∧ExprD.At v B N x cs from fun v hv=>⟨Nat.le_trans hB hv.size,HE.out.then hv,HX.out.below (hv.mono hB)⟩)
 have e0:=R0.out.cell HC0.out
 have e1:=R0.out.cell HC1.out
 rw [hw1] at e0 e1
 obtain ⟨s,hs⟩:∃ s,stepT f x=s:=⟨_,rfl⟩
 have HST:=Hd hs
 have n1:¬ s.toList=[]:=by rw [← hs];exact ne_toList hz
 have n2:(s.toList==[])=false:=by simp [n1]
 have n3:(s.toList != [])=true:=by simp [n1]
 have n4:s.toList.isEmpty=false:=by simp [n1]
 clear hx hE hh ho hnm2 hw1 hs hp hz
 go_enter Tryz.func24,Tryz.ntmps24
 go_wp2_with ((with_reducible show wpList _ _ _ (⟨some 94,_,_,_,_,_⟩::_) _ _);refine wpList_load_mid rfl 34 _ rfl w.heap.size 0 rfl cs _ (by rw [← HW.out];exact R0.out.range) Tryz.underlying34 rfl hl.out ?_)
 rw [← HW.out]
 refine (HP.out _ B N cs hN (HKA.out _ H0.out).1 (HKA.out _ H0.out).2.1 (HKA.out _ H0.out).2.2).mono ?_
 rw [HST.out]
 rintro e wu ⟨rfl,hb1⟩
 have HU:=Hd (belowThen H0.out hb1)
 clear hb1
 go_wp2_with fail
 go_ret
 exact ⟨by rw [HST.out];rfl,HU.out⟩
set_option maxRecDepth 100000 in
set_option maxHeartbeats 6400000 in
theorem src_28 (f:ExprD→ByteArray) (x:ExprD) (ho:x.op=28) (hp:∀ (w:World) (B N:Nat) (cs:List Value),N≤1048576→B≤w.heap.size→Env w→ExprD.At w B N x cs→Calls Tryz.prog 70 #[.agg cs.toArray] w (StrB (stepT f x) w)) (hz:0<(stepT f x).size)
 (w:World) (B N:Nat) (cs:List Value) (hN:N≤1048576) (hB:B≤w.heap.size) (hE:Env w) (hx:ExprD.At w B N x cs):Calls Tryz.prog 24 #[.agg cs.toArray] w (StrB (stepT f x) w):=by
 have HX:=Hd hx
 have HE:=Hd hE
 have HO:=Hd ho
 have HP:=Hd hp
 have hl:=Hd (show (Tryz.prog.info? 34).map (·.size)=some cs.length by rw [hx.len];kernel_rfl)
 obtain ⟨aa,fa,ac,fc,vs,hh⟩:=hx.has
 have HC0:=Hd (show cs[0]?=some (.int .i64 28) by rw [← ho];exact hh.op)
 have hnm:=Hd (show x.name.size≤1048576 from Nat.le_trans hh.own.2.1 hN)
 obtain ⟨nm,hnm2⟩:∃ nm,x.name=nm:=⟨_,rfl⟩
 have HNE:=Hd hnm2
 have znm:nm.size≤1048576:=by rw [← hnm2];exact hnm.out
 have HC1:=Hd (show cs[1]?=some (.string nm) by rw [← hnm2];exact hh.name)
 obtain ⟨w1,hw1⟩:∃ w1,w1=w.alloc (.cells cs.toArray 34):=⟨_,rfl⟩
 have HW:=Hd hw1
 have R0:=Hd (show RowT 34 w1 w.heap.size cs by rw [hw1];exact RowT.new w 34 cs)
 have H0:=Hd (show Below w.heap.size w w1 by rw [hw1];exact belowBox w _)
 have HKA:=Hd (show ∀ v,Below w.heap.size w v→B≤v.heap.size∧Env v∧ExprD.At v B N x cs from fun v hv=>⟨Nat.le_trans hB hv.size,HE.out.then hv,HX.out.below (hv.mono hB)⟩)
 have e0:=R0.out.cell HC0.out
 have e1:=R0.out.cell HC1.out
 rw [hw1] at e0 e1
 obtain ⟨s,hs⟩:∃ s,stepT f x=s:=⟨_,rfl⟩
 have HST:=Hd hs
 have n1:¬ s.toList=[]:=by rw [← hs];exact ne_toList hz
 have n2:(s.toList==[])=false:=by simp [n1]
 have n3:(s.toList != [])=true:=by simp [n1]
 have n4:s.toList.isEmpty=false:=by simp [n1]
 clear hx hE hh ho hnm2 hw1 hs hp hz
 go_enter Tryz.func24,Tryz.ntmps24
 go_wp2_with ((with_reducible show wpList _ _ _ (⟨some 94,_,_,_,_,_⟩::_) _ _);refine wpList_load_mid rfl 34 _ rfl w.heap.size 0 rfl cs _ (by rw [← HW.out];exact R0.out.range) Tryz.underlying34 rfl hl.out ?_)
 rw [← HW.out]
 refine (HP.out _ B N cs hN (HKA.out _ H0.out).1 (HKA.out _ H0.out).2.1 (HKA.out _ H0.out).2.2).mono ?_
 rw [HST.out]
 rintro e wu ⟨rfl,hb1⟩
 have HU:=Hd (belowThen H0.out hb1)
 clear hb1
 go_wp2_with fail
 go_ret
 exact ⟨by rw [HST.out];rfl,HU.out⟩
set_option maxRecDepth 100000 in
set_option maxHeartbeats 6400000 in
theorem src_29 (f:ExprD→ByteArray) (x:ExprD) (ho:x.op=29) (hp:∀ (w:World) (B N:Nat) (cs:List Value),N≤1048576→B≤w.heap.size→Env w→ExprD.At w B N x cs→Calls Tryz.prog 70 #[.agg cs.toArray] w (StrB (stepT f x) w)) (hz:0<(stepT f x).size)
 (w:World) (B N:Nat) (cs:List Value) (hN:N≤1048576) (hB:B≤w.heap.size) (hE:Env w) (hx:ExprD.At w B N x cs):Calls Tryz.prog 24 #[.agg cs.toArray] w (StrB (stepT f x) w):=by
 have HX:=Hd hx
 have HE:=Hd hE
 have HO:=Hd ho
 have HP:=Hd hp
 have hl:=Hd (show (Tryz.prog.info? 34).map (·.size)=some cs.length by rw [hx.len];kernel_rfl)
 obtain ⟨aa,fa,ac,fc,vs,hh⟩:=hx.has
 have HC0:=Hd (show cs[0]?=some (.int .i64 29) by rw [← ho];exact hh.op)
 have hnm:=Hd (show x.name.size≤1048576 from Nat.le_trans hh.own.2.1 hN)
 obtain ⟨nm,hnm2⟩:∃ nm,x.name=nm:=⟨_,rfl⟩
 have HNE:=Hd hnm2
 have znm:nm.size≤1048576:=by rw [← hnm2];exact hnm.out
 have HC1:=Hd (show cs[1]?=some (.string nm) by rw [← hnm2];exact hh.name)
 obtain ⟨w1,hw1⟩:∃ w1,w1=w.alloc (.cells cs.toArray 34):=⟨_,rfl⟩
 have HW:=Hd hw1
 have R0:=Hd (show RowT 34 w1 w.heap.size cs by rw [hw1];exact RowT.new w 34 cs)
 have H0:=Hd (show Below w.heap.size w w1 by rw [hw1];exact belowBox w _)
 have HKA:=Hd (show ∀ v,Below w.heap.size w v→B≤v.heap.size∧Env v∧ExprD.At v B N x cs from fun v hv=>⟨Nat.le_trans hB hv.size,HE.out.then hv,HX.out.below (hv.mono hB)⟩)
 have e0:=R0.out.cell HC0.out
 have e1:=R0.out.cell HC1.out
 rw [hw1] at e0 e1
 obtain ⟨s,hs⟩:∃ s,stepT f x=s:=⟨_,rfl⟩
 have HST:=Hd hs
 have n1:¬ s.toList=[]:=by rw [← hs];exact ne_toList hz
 have n2:(s.toList==[])=false:=by simp [n1]
 have n3:(s.toList != [])=true:=by simp [n1]
 have n4:s.toList.isEmpty=false:=by simp [n1]
 clear hx hE hh ho hnm2 hw1 hs hp hz
 go_enter Tryz.func24,Tryz.ntmps24
 go_wp2_with ((with_reducible show wpList _ _ _ (⟨some 94,_,_,_,_,_⟩::_) _ _);refine wpList_load_mid rfl 34 _ rfl w.heap.size 0 rfl cs _ (by rw [← HW.out];exact R0.out.range) Tryz.underlying34 rfl hl.out ?_)
 rw [← HW.out]
 refine (HP.out _ B N cs hN (HKA.out _ H0.out).1 (HKA.out _ H0.out).2.1 (HKA.out _ H0.out).2.2).mono ?_
 rw [HST.out]
 rintro e wu ⟨rfl,hb1⟩
 have HU:=Hd (belowThen H0.out hb1)
 clear hb1
 go_wp2_with fail
 go_ret
 exact ⟨by rw [HST.out];rfl,HU.out⟩
set_option maxRecDepth 100000 in
set_option maxHeartbeats 6400000 in
theorem src_15 (f:ExprD→ByteArray) (x:ExprD) (ho:x.op=15) (hp:∀ (w:World) (B N:Nat) (cs:List Value),N≤1048576→B≤w.heap.size→Env w→ExprD.At w B N x cs→Calls Tryz.prog 70 #[.agg cs.toArray] w (StrB (stepT f x) w)) (hz:0<(stepT f x).size)
 (w:World) (B N:Nat) (cs:List Value) (hN:N≤1048576) (hB:B≤w.heap.size) (hE:Env w) (hx:ExprD.At w B N x cs):Calls Tryz.prog 24 #[.agg cs.toArray] w (StrB (stepT f x) w):=by
 have HX:=Hd hx
 have HE:=Hd hE
 have HO:=Hd ho
 have HP:=Hd hp
 have hl:=Hd (show (Tryz.prog.info? 34).map (·.size)=some cs.length by rw [hx.len];kernel_rfl)
 obtain ⟨aa,fa,ac,fc,vs,hh⟩:=hx.has
 have HC0:=Hd (show cs[0]?=some (.int .i64 15) by rw [← ho];exact hh.op)
 have hnm:=Hd (show x.name.size≤1048576 from Nat.le_trans hh.own.2.1 hN)
 obtain ⟨nm,hnm2⟩:∃ nm,x.name=nm:=⟨_,rfl⟩
 have HNE:=Hd hnm2
 have znm:nm.size≤1048576:=by rw [← hnm2];exact hnm.out
 have HC1:=Hd (show cs[1]?=some (.string nm) by rw [← hnm2];exact hh.name)
 obtain ⟨w1,hw1⟩:∃ w1,w1=w.alloc (.cells cs.toArray 34):=⟨_,rfl⟩
 have HW:=Hd hw1
 have R0:=Hd (show RowT 34 w1 w.heap.size cs by rw [hw1];exact RowT.new w 34 cs)
 have H0:=Hd (show Below w.heap.size w w1 by rw [hw1];exact belowBox w _)
 have HKA:=Hd (show ∀ v,Below w.heap.size w v→B≤v.heap.size∧Env v∧ExprD.At v B N x cs from fun v hv=>⟨Nat.le_trans hB hv.size,HE.out.then hv,HX.out.below (hv.mono hB)⟩)
 have e0:=R0.out.cell HC0.out
 have e1:=R0.out.cell HC1.out
 rw [hw1] at e0 e1
 obtain ⟨s,hs⟩:∃ s,stepT f x=s:=⟨_,rfl⟩
 have HST:=Hd hs
 have n1:¬ s.toList=[]:=by rw [← hs];exact ne_toList hz
 have n2:(s.toList==[])=false:=by simp [n1]
 have n3:(s.toList != [])=true:=by simp [n1]
 have n4:s.toList.isEmpty=false:=by simp [n1]
 clear hx hE hh ho hnm2 hw1 hs hp hz
 go_enter Tryz.func24,Tryz.ntmps24
 go_wp2_with ((with_reducible show wpList _ _ _ (⟨some 94,_,_,_,_,_⟩::_) _ _);refine wpList_load_mid rfl 34 _ rfl w.heap.size 0 rfl cs _ (by rw [← HW.out];exact R0.out.range) Tryz.underlying34 rfl hl.out ?_)
 rw [← HW.out]
 refine (HP.out _ B N cs hN (HKA.out _ H0.out).1 (HKA.out _ H0.out).2.1 (HKA.out _ H0.out).2.2).mono ?_
 rw [HST.out]
 rintro e wu ⟨rfl,hb1⟩
 have HU:=Hd (belowThen H0.out hb1)
 clear hb1
 go_wp2_with fail
 go_ret
 exact ⟨by rw [HST.out];rfl,HU.out⟩
set_option maxRecDepth 100000 in
set_option maxHeartbeats 6400000 in
theorem src_14 (f:ExprD→ByteArray) (x:ExprD) (ho:x.op=14) (hp:∀ (w:World) (B N:Nat) (cs:List Value),N≤1048576→B≤w.heap.size→Env w→ExprD.At w B N x cs→Calls Tryz.prog 70 #[.agg cs.toArray] w (StrB (stepT f x) w)) (hz:0<(stepT f x).size)
 (w:World) (B N:Nat) (cs:List Value) (hN:N≤1048576) (hB:B≤w.heap.size) (hE:Env w) (hx:ExprD.At w B N x cs):Calls Tryz.prog 24 #[.agg cs.toArray] w (StrB (stepT f x) w):=by
 have HX:=Hd hx
 have HE:=Hd hE
 have HO:=Hd ho
 have HP:=Hd hp
 have hl:=Hd (show (Tryz.prog.info? 34).map (·.size)=some cs.length by rw [hx.len];kernel_rfl)
 obtain ⟨aa,fa,ac,fc,vs,hh⟩:=hx.has
 have HC0:=Hd (show cs[0]?=some (.int .i64 14) by rw [← ho];exact hh.op)
 have hnm:=Hd (show x.name.size≤1048576 from Nat.le_trans hh.own.2.1 hN)
 obtain ⟨nm,hnm2⟩:∃ nm,x.name=nm:=⟨_,rfl⟩
 have HNE:=Hd hnm2
 have znm:nm.size≤1048576:=by rw [← hnm2];exact hnm.out
 have HC1:=Hd (show cs[1]?=some (.string nm) by rw [← hnm2];exact hh.name)
 obtain ⟨w1,hw1⟩:∃ w1,w1=w.alloc (.cells cs.toArray 34):=⟨_,rfl⟩
 have HW:=Hd hw1
 have R0:=Hd (show RowT 34 w1 w.heap.size cs by rw [hw1];exact RowT.new w 34 cs)
 have H0:=Hd (show Below w.heap.size w w1 by rw [hw1];exact belowBox w _)
 have HKA:=Hd (show ∀ v,Below w.heap.size w v→B≤v.heap.size∧Env v∧ExprD.At v B N x cs from fun v hv=>⟨Nat.le_trans hB hv.size,HE.out.then hv,HX.out.below (hv.mono hB)⟩)
 have e0:=R0.out.cell HC0.out
 have e1:=R0.out.cell HC1.out
 rw [hw1] at e0 e1
 obtain ⟨s,hs⟩:∃ s,stepT f x=s:=⟨_,rfl⟩
 have HST:=Hd hs
 have n1:¬ s.toList=[]:=by rw [← hs];exact ne_toList hz
 have n2:(s.toList==[])=false:=by simp [n1]
 have n3:(s.toList != [])=true:=by simp [n1]
 have n4:s.toList.isEmpty=false:=by simp [n1]
 clear hx hE hh ho hnm2 hw1 hs hp hz
 go_enter Tryz.func24,Tryz.ntmps24
 go_wp2_with ((with_reducible show wpList _ _ _ (⟨some 94,_,_,_,_,_⟩::_) _ _);refine wpList_load_mid rfl 34 _ rfl w.heap.size 0 rfl cs _ (by rw [← HW.out];exact R0.out.range) Tryz.underlying34 rfl hl.out ?_)
 rw [← HW.out]
 refine (HP.out _ B N cs hN (HKA.out _ H0.out).1 (HKA.out _ H0.out).2.1 (HKA.out _ H0.out).2.2).mono ?_
 rw [HST.out]
 rintro e wu ⟨rfl,hb1⟩
 have HU:=Hd (belowThen H0.out hb1)
 clear hb1
 go_wp2_with fail
 go_ret
 exact ⟨by rw [HST.out];rfl,HU.out⟩
set_option maxRecDepth 100000 in
set_option maxHeartbeats 6400000 in
theorem src_13 (f:ExprD→ByteArray) (x:ExprD) (ho:x.op=13) (hp:∀ (w:World) (B N:Nat) (cs:List Value),N≤1048576→B≤w.heap.size→Env w→ExprD.At w B N x cs→Calls Tryz.prog 70 #[.agg cs.toArray] w (StrB (stepT f x) w)) (hz:0<(stepT f x).size)
 (w:World) (B N:Nat) (cs:List Value) (hN:N≤1048576) (hB:B≤w.heap.size) (hE:Env w) (hx:ExprD.At w B N x cs):Calls Tryz.prog 24 #[.agg cs.toArray] w (StrB (stepT f x) w):=by
 have HX:=Hd hx
 have HE:=Hd hE
 have HO:=Hd ho
 have HP:=Hd hp
 have hl:=Hd (show (Tryz.prog.info? 34).map (·.size)=some cs.length by rw [hx.len];kernel_rfl)
 obtain ⟨aa,fa,ac,fc,vs,hh⟩:=hx.has
 have HC0:=Hd (show cs[0]?=some (.int .i64 13) by rw [← ho];exact hh.op)
 have hnm:=Hd (show x.name.size≤1048576 from Nat.le_trans hh.own.2.1 hN)
 obtain ⟨nm,hnm2⟩:∃ nm,x.name=nm:=⟨_,rfl⟩
 have HNE:=Hd hnm2
 have znm:nm.size≤1048576:=by rw [← hnm2];exact hnm.out
 have HC1:=Hd (show cs[1]?=some (.string nm) by rw [← hnm2];exact hh.name)
 obtain ⟨w1,hw1⟩:∃ w1,w1=w.alloc (.cells cs.toArray 34):=⟨_,rfl⟩
 have HW:=Hd hw1
 have R0:=Hd (show RowT 34 w1 w.heap.size cs by rw [hw1];exact RowT.new w 34 cs)
 have H0:=Hd (show Below w.heap.size w w1 by rw [hw1];exact belowBox w _)
 have HKA:=Hd (show ∀ v,Below w.heap.size w v→B≤v.heap.size∧Env v∧ExprD.At v B N x cs from fun v hv=>⟨Nat.le_trans hB hv.size,HE.out.then hv,HX.out.below (hv.mono hB)⟩)
 have e0:=R0.out.cell HC0.out
 have e1:=R0.out.cell HC1.out
 rw [hw1] at e0 e1
 obtain ⟨s,hs⟩:∃ s,stepT f x=s:=⟨_,rfl⟩
 have HST:=Hd hs
 have n1:¬ s.toList=[]:=by rw [← hs];exact ne_toList hz
 have n2:(s.toList==[])=false:=by simp [n1]
 have n3:(s.toList != [])=true:=by simp [n1]
 have n4:s.toList.isEmpty=false:=by simp [n1]
 clear hx hE hh ho hnm2 hw1 hs hp hz
 go_enter Tryz.func24,Tryz.ntmps24
 go_wp2_with ((with_reducible show wpList _ _ _ (⟨some 94,_,_,_,_,_⟩::_) _ _);refine wpList_load_mid rfl 34 _ rfl w.heap.size 0 rfl cs _ (by rw [← HW.out];exact R0.out.range) Tryz.underlying34 rfl hl.out ?_)
 rw [← HW.out]
 refine (HP.out _ B N cs hN (HKA.out _ H0.out).1 (HKA.out _ H0.out).2.1 (HKA.out _ H0.out).2.2).mono ?_
 rw [HST.out]
 rintro e wu ⟨rfl,hb1⟩
 have HU:=Hd (belowThen H0.out hb1)
 clear hb1
 go_wp2_with fail
 go_ret
 exact ⟨by rw [HST.out];rfl,HU.out⟩
set_option maxRecDepth 100000 in
set_option maxHeartbeats 6400000 in
theorem src_12 (f:ExprD→ByteArray) (x:ExprD) (ho:x.op=12) (hp:∀ (w:World) (B N:Nat) (cs:List Value),N≤1048576→B≤w.heap.size→Env w→ExprD.At w B N x cs→Calls Tryz.prog 70 #[.agg cs.toArray] w (StrB (stepT f x) w)) (hz:0<(stepT f x).size)
 (w:World) (B N:Nat) (cs:List Value) (hN:N≤1048576) (hB:B≤w.heap.size) (hE:Env w) (hx:ExprD.At w B N x cs):Calls Tryz.prog 24 #[.agg cs.toArray] w (StrB (stepT f x) w):=by
 have HX:=Hd hx
 have HE:=Hd hE
 have HO:=Hd ho
 have HP:=Hd hp
 have hl:=Hd (show (Tryz.prog.info? 34).map (·.size)=some cs.length by rw [hx.len];kernel_rfl)
 obtain ⟨aa,fa,ac,fc,vs,hh⟩:=hx.has
 have HC0:=Hd (show cs[0]?=some (.int .i64 12) by rw [← ho];exact hh.op)
 have hnm:=Hd (show x.name.size≤1048576 from Nat.le_trans hh.own.2.1 hN)
 obtain ⟨nm,hnm2⟩:∃ nm,x.name=nm:=⟨_,rfl⟩
 have HNE:=Hd hnm2
 have znm:nm.size≤1048576:=by rw [← hnm2];exact hnm.out
 have HC1:=Hd (show cs[1]?=some (.string nm) by rw [← hnm2];exact hh.name)
 obtain ⟨w1,hw1⟩:∃ w1,w1=w.alloc (.cells cs.toArray 34):=⟨_,rfl⟩
 have HW:=Hd hw1
 have R0:=Hd (show RowT 34 w1 w.heap.size cs by rw [hw1];exact RowT.new w 34 cs)
 have H0:=Hd (show Below w.heap.size w w1 by rw [hw1];exact belowBox w _)
 have HKA:=Hd (show ∀ v,Below w.heap.size w v→B≤v.heap.size∧Env v∧ExprD.At v B N x cs from fun v hv=>⟨Nat.le_trans hB hv.size,HE.out.then hv,HX.out.below (hv.mono hB)⟩)
 have e0:=R0.out.cell HC0.out
 have e1:=R0.out.cell HC1.out
 rw [hw1] at e0 e1
 obtain ⟨s,hs⟩:∃ s,stepT f x=s:=⟨_,rfl⟩
 have HST:=Hd hs
 have n1:¬ s.toList=[]:=by rw [← hs];exact ne_toList hz
 have n2:(s.toList==[])=false:=by simp [n1]
 have n3:(s.toList != [])=true:=by simp [n1]
 have n4:s.toList.isEmpty=false:=by simp [n1]
 clear hx hE hh ho hnm2 hw1 hs hp hz
 go_enter Tryz.func24,Tryz.ntmps24
 go_wp2_with ((with_reducible show wpList _ _ _ (⟨some 94,_,_,_,_,_⟩::_) _ _);refine wpList_load_mid rfl 34 _ rfl w.heap.size 0 rfl cs _ (by rw [← HW.out];exact R0.out.range) Tryz.underlying34 rfl hl.out ?_)
 rw [← HW.out]
 refine (HP.out _ B N cs hN (HKA.out _ H0.out).1 (HKA.out _ H0.out).2.1 (HKA.out _ H0.out).2.2).mono ?_
 rw [HST.out]
 rintro e wu ⟨rfl,hb1⟩
 have HU:=Hd (belowThen H0.out hb1)
 clear hb1
 go_wp2_with fail
 go_ret
 exact ⟨by rw [HST.out];rfl,HU.out⟩
set_option maxRecDepth 100000 in
set_option maxHeartbeats 6400000 in
theorem src_27 (f:ExprD→ByteArray) (x:ExprD) (ho:x.op=27) (hp:∀ (w:World) (B N:Nat) (cs:List Value),N≤1048576→B≤w.heap.size→Env w→ExprD.At w B N x cs→Calls Tryz.prog 71 #[.agg cs.toArray] w (StrB (stepT f x) w))
 (w:World) (B N:Nat) (cs:List Value) (hN:N≤1048576) (hB:B≤w.heap.size) (hE:Env w) (hx:ExprD.At w B N x cs):Calls Tryz.prog 24 #[.agg cs.toArray] w (StrB (stepT f x) w):=by
 have HX:=Hd hx
 have HE:=Hd hE
 have HO:=Hd ho
 have HP:=Hd hp
 have hl:=Hd (show (Tryz.prog.info? 34).map (·.size)=some cs.length by rw [hx.len];kernel_rfl)
 obtain ⟨aa,fa,ac,fc,vs,hh⟩:=hx.has
 have HC0:=Hd (show cs[0]?=some (.int .i64 27) by rw [← ho];exact hh.op)
 have hnm:=Hd (show x.name.size≤1048576 from Nat.le_trans hh.own.2.1 hN)
 obtain ⟨nm,hnm2⟩:∃ nm,x.name=nm:=⟨_,rfl⟩
 have HNE:=Hd hnm2
 have znm:nm.size≤1048576:=by rw [← hnm2];exact hnm.out
 have HC1:=Hd (show cs[1]?=some (.string nm) by rw [← hnm2];exact hh.name)
 obtain ⟨w1,hw1⟩:∃ w1,w1=w.alloc (.cells cs.toArray 34):=⟨_,rfl⟩
 have HW:=Hd hw1
 have R0:=Hd (show RowT 34 w1 w.heap.size cs by rw [hw1];exact RowT.new w 34 cs)
 have H0:=Hd (show Below w.heap.size w w1 by rw [hw1];exact belowBox w _)
 have HKA:=Hd (show ∀ v,Below w.heap.size w v→B≤v.heap.size∧Env v∧ExprD.At v B N x cs from fun v hv=>⟨Nat.le_trans hB hv.size,HE.out.then hv,HX.out.below (hv.mono hB)⟩)
 have e0:=R0.out.cell HC0.out
 have e1:=R0.out.cell HC1.out
 rw [hw1] at e0 e1
 obtain ⟨s,hs⟩:∃ s,stepT f x=s:=⟨_,rfl⟩
 have HST:=Hd hs
 clear hx hE hh ho hnm2 hw1 hs hp
 go_enter Tryz.func24,Tryz.ntmps24
 go_wp2_with ((with_reducible show wpList _ _ _ (⟨some 94,_,_,_,_,_⟩::_) _ _);refine wpList_load_mid rfl 34 _ rfl w.heap.size 0 rfl cs _ (by rw [← HW.out];exact R0.out.range) Tryz.underlying34 rfl hl.out ?_)
 rw [← HW.out]
 refine (infix_no_27 x HO.out _ B N cs hN (HKA.out _ H0.out).1 (HKA.out _ H0.out).2.1 (HKA.out _ H0.out).2.2).mono ?_
 rintro e wu ⟨rfl,hb1⟩
 have HU:=Hd (belowThen H0.out hb1)
 have RU:=Hd (R0.out.then hb1)
 clear hb1
 go_wp2_with ((with_reducible show wpList _ _ _ (⟨some 99,_,_,_,_,_⟩::_) _ _);refine wpList_load_mid rfl 34 _ rfl w.heap.size 0 rfl cs _ RU.out.range Tryz.underlying34 rfl hl.out ?_)
 refine (HP.out _ B N cs hN (HKA.out _ HU.out).1 (HKA.out _ HU.out).2.1 (HKA.out _ HU.out).2.2).mono ?_
 rw [HST.out]
 rintro e wv ⟨rfl,hb2⟩
 have HV:=Hd (belowThen HU.out hb2)
 clear hb2
 go_wp2_with fail
 go_ret
 exact ⟨by rw [HST.out];rfl,HV.out⟩
set_option maxRecDepth 100000 in
set_option maxHeartbeats 6400000 in
theorem src_18 (f:ExprD→ByteArray) (x:ExprD) (ho:x.op=18) (hp:∀ (w:World) (B N:Nat) (cs:List Value),N≤1048576→B≤w.heap.size→Env w→ExprD.At w B N x cs→Calls Tryz.prog 71 #[.agg cs.toArray] w (StrB (stepT f x) w))
 (w:World) (B N:Nat) (cs:List Value) (hN:N≤1048576) (hB:B≤w.heap.size) (hE:Env w) (hx:ExprD.At w B N x cs):Calls Tryz.prog 24 #[.agg cs.toArray] w (StrB (stepT f x) w):=by
 have HX:=Hd hx
 have HE:=Hd hE
 have HO:=Hd ho
 have HP:=Hd hp
 have hl:=Hd (show (Tryz.prog.info? 34).map (·.size)=some cs.length by rw [hx.len];kernel_rfl)
 obtain ⟨aa,fa,ac,fc,vs,hh⟩:=hx.has
 have HC0:=Hd (show cs[0]?=some (.int .i64 18) by rw [← ho];exact hh.op)
 have hnm:=Hd (show x.name.size≤1048576 from Nat.le_trans hh.own.2.1 hN)
 obtain ⟨nm,hnm2⟩:∃ nm,x.name=nm:=⟨_,rfl⟩
 have HNE:=Hd hnm2
 have znm:nm.size≤1048576:=by rw [← hnm2];exact hnm.out
 have HC1:=Hd (show cs[1]?=some (.string nm) by rw [← hnm2];exact hh.name)
 obtain ⟨w1,hw1⟩:∃ w1,w1=w.alloc (.cells cs.toArray 34):=⟨_,rfl⟩
 have HW:=Hd hw1
 have R0:=Hd (show RowT 34 w1 w.heap.size cs by rw [hw1];exact RowT.new w 34 cs)
 have H0:=Hd (show Below w.heap.size w w1 by rw [hw1];exact belowBox w _)
 have HKA:=Hd (show ∀ v,Below w.heap.size w v→B≤v.heap.size∧Env v∧ExprD.At v B N x cs from fun v hv=>⟨Nat.le_trans hB hv.size,HE.out.then hv,HX.out.below (hv.mono hB)⟩)
 have e0:=R0.out.cell HC0.out
 have e1:=R0.out.cell HC1.out
 rw [hw1] at e0 e1
 obtain ⟨s,hs⟩:∃ s,stepT f x=s:=⟨_,rfl⟩
 have HST:=Hd hs
 clear hx hE hh ho hnm2 hw1 hs hp
 go_enter Tryz.func24,Tryz.ntmps24
 go_wp2_with ((with_reducible show wpList _ _ _ (⟨some 94,_,_,_,_,_⟩::_) _ _);refine wpList_load_mid rfl 34 _ rfl w.heap.size 0 rfl cs _ (by rw [← HW.out];exact R0.out.range) Tryz.underlying34 rfl hl.out ?_)
 rw [← HW.out]
 refine (infix_no_18 x HO.out _ B N cs hN (HKA.out _ H0.out).1 (HKA.out _ H0.out).2.1 (HKA.out _ H0.out).2.2).mono ?_
 rintro e wu ⟨rfl,hb1⟩
 have HU:=Hd (belowThen H0.out hb1)
 have RU:=Hd (R0.out.then hb1)
 clear hb1
 go_wp2_with ((with_reducible show wpList _ _ _ (⟨some 99,_,_,_,_,_⟩::_) _ _);refine wpList_load_mid rfl 34 _ rfl w.heap.size 0 rfl cs _ RU.out.range Tryz.underlying34 rfl hl.out ?_)
 refine (HP.out _ B N cs hN (HKA.out _ HU.out).1 (HKA.out _ HU.out).2.1 (HKA.out _ HU.out).2.2).mono ?_
 rw [HST.out]
 rintro e wv ⟨rfl,hb2⟩
 have HV:=Hd (belowThen HU.out hb2)
 clear hb2
 go_wp2_with fail
 go_ret
 exact ⟨by rw [HST.out];rfl,HV.out⟩
set_option maxRecDepth 100000 in
set_option maxHeartbeats 6400000 in
theorem src_19 (f:ExprD→ByteArray) (x:ExprD) (ho:x.op=19) (hp:∀ (w:World) (B N:Nat) (cs:List Value),N≤1048576→B≤w.heap.size→Env w→ExprD.At w B N x cs→Calls Tryz.prog 71 #[.agg cs.toArray] w (StrB (stepT f x) w))
 (w:World) (B N:Nat) (cs:List Value) (hN:N≤1048576) (hB:B≤w.heap.size) (hE:Env w) (hx:ExprD.At w B N x cs):Calls Tryz.prog 24 #[.agg cs.toArray] w (StrB (stepT f x) w):=by
 have HX:=Hd hx
 have HE:=Hd hE
 have HO:=Hd ho
 have HP:=Hd hp
 have hl:=Hd (show (Tryz.prog.info? 34).map (·.size)=some cs.length by rw [hx.len];kernel_rfl)
 obtain ⟨aa,fa,ac,fc,vs,hh⟩:=hx.has
 have HC0:=Hd (show cs[0]?=some (.int .i64 19) by rw [← ho];exact hh.op)
 have hnm:=Hd (show x.name.size≤1048576 from Nat.le_trans hh.own.2.1 hN)
 obtain ⟨nm,hnm2⟩:∃ nm,x.name=nm:=⟨_,rfl⟩
 have HNE:=Hd hnm2
 have znm:nm.size≤1048576:=by rw [← hnm2];exact hnm.out
 have HC1:=Hd (show cs[1]?=some (.string nm) by rw [← hnm2];exact hh.name)
 obtain ⟨w1,hw1⟩:∃ w1,w1=w.alloc (.cells cs.toArray 34):=⟨_,rfl⟩
 have HW:=Hd hw1
 have R0:=Hd (show RowT 34 w1 w.heap.size cs by rw [hw1];exact RowT.new w 34 cs)
 have H0:=Hd (show Below w.heap.size w w1 by rw [hw1];exact belowBox w _)
 have HKA:=Hd (show ∀ v,Below w.heap.size w v→B≤v.heap.size∧Env v∧ExprD.At v B N x cs from fun v hv=>⟨Nat.le_trans hB hv.size,HE.out.then hv,HX.out.below (hv.mono hB)⟩)
 have e0:=R0.out.cell HC0.out
 have e1:=R0.out.cell HC1.out
 rw [hw1] at e0 e1
 obtain ⟨s,hs⟩:∃ s,stepT f x=s:=⟨_,rfl⟩
 have HST:=Hd hs
 clear hx hE hh ho hnm2 hw1 hs hp
 go_enter Tryz.func24,Tryz.ntmps24
 go_wp2_with ((with_reducible show wpList _ _ _ (⟨some 94,_,_,_,_,_⟩::_) _ _);refine wpList_load_mid rfl 34 _ rfl w.heap.size 0 rfl cs _ (by rw [← HW.out];exact R0.out.range) Tryz.underlying34 rfl hl.out ?_)
 rw [← HW.out]
 refine (infix_no_19 x HO.out _ B N cs hN (HKA.out _ H0.out).1 (HKA.out _ H0.out).2.1 (HKA.out _ H0.out).2.2).mono ?_
 rintro e wu ⟨rfl,hb1⟩
 have HU:=Hd (belowThen H0.out hb1)
 have RU:=Hd (R0.out.then hb1)
 clear hb1
 go_wp2_with ((with_reducible show wpList _ _ _ (⟨some 99,_,_,_,_,_⟩::_) _ _);refine wpList_load_mid rfl 34 _ rfl w.heap.size 0 rfl cs _ RU.out.range Tryz.underlying34 rfl hl.out ?_)
 refine (HP.out _ B N cs hN (HKA.out _ HU.out).1 (HKA.out _ HU.out).2.1 (HKA.out _ HU.out).2.2).mono ?_
 rw [HST.out]
 rintro e wv ⟨rfl,hb2⟩
 have HV:=Hd (belowThen HU.out hb2)
 clear hb2
 go_wp2_with fail
 go_ret
 exact ⟨by rw [HST.out];rfl,HV.out⟩
set_option maxRecDepth 100000 in
set_option maxHeartbeats 6400000 in
theorem src_20 (f:ExprD→ByteArray) (x:ExprD) (ho:x.op=20) (hp:∀ (w:World) (B N:Nat) (cs:List Value),N≤1048576→B≤w.heap.size→Env w→ExprD.At w B N x cs→Calls Tryz.prog 71 #[.agg cs.toArray] w (StrB (stepT f x) w))
 (w:World) (B N:Nat) (cs:List Value) (hN:N≤1048576) (hB:B≤w.heap.size) (hE:Env w) (hx:ExprD.At w B N x cs):Calls Tryz.prog 24 #[.agg cs.toArray] w (StrB (stepT f x) w):=by
 have HX:=Hd hx
 have HE:=Hd hE
 have HO:=Hd ho
 have HP:=Hd hp
 have hl:=Hd (show (Tryz.prog.info? 34).map (·.size)=some cs.length by rw [hx.len];kernel_rfl)
 obtain ⟨aa,fa,ac,fc,vs,hh⟩:=hx.has
 have HC0:=Hd (show cs[0]?=some (.int .i64 20) by rw [← ho];exact hh.op)
 have hnm:=Hd (show x.name.size≤1048576 from Nat.le_trans hh.own.2.1 hN)
 obtain ⟨nm,hnm2⟩:∃ nm,x.name=nm:=⟨_,rfl⟩
 have HNE:=Hd hnm2
 have znm:nm.size≤1048576:=by rw [← hnm2];exact hnm.out
 have HC1:=Hd (show cs[1]?=some (.string nm) by rw [← hnm2];exact hh.name)
 obtain ⟨w1,hw1⟩:∃ w1,w1=w.alloc (.cells cs.toArray 34):=⟨_,rfl⟩
 have HW:=Hd hw1
 have R0:=Hd (show RowT 34 w1 w.heap.size cs by rw [hw1];exact RowT.new w 34 cs)
 have H0:=Hd (show Below w.heap.size w w1 by rw [hw1];exact belowBox w _)
 have HKA:=Hd (show ∀ v,Below w.heap.size w v→B≤v.heap.size∧Env v∧ExprD.At v B N x cs from fun v hv=>⟨Nat.le_trans hB hv.size,HE.out.then hv,HX.out.below (hv.mono hB)⟩)
 have e0:=R0.out.cell HC0.out
 have e1:=R0.out.cell HC1.out
 rw [hw1] at e0 e1
 obtain ⟨s,hs⟩:∃ s,stepT f x=s:=⟨_,rfl⟩
 have HST:=Hd hs
 clear hx hE hh ho hnm2 hw1 hs hp
 go_enter Tryz.func24,Tryz.ntmps24
 go_wp2_with ((with_reducible show wpList _ _ _ (⟨some 94,_,_,_,_,_⟩::_) _ _);refine wpList_load_mid rfl 34 _ rfl w.heap.size 0 rfl cs _ (by rw [← HW.out];exact R0.out.range) Tryz.underlying34 rfl hl.out ?_)
 rw [← HW.out]
 refine (infix_no_20 x HO.out _ B N cs hN (HKA.out _ H0.out).1 (HKA.out _ H0.out).2.1 (HKA.out _ H0.out).2.2).mono ?_
 rintro e wu ⟨rfl,hb1⟩
 have HU:=Hd (belowThen H0.out hb1)
 have RU:=Hd (R0.out.then hb1)
 clear hb1
 go_wp2_with ((with_reducible show wpList _ _ _ (⟨some 99,_,_,_,_,_⟩::_) _ _);refine wpList_load_mid rfl 34 _ rfl w.heap.size 0 rfl cs _ RU.out.range Tryz.underlying34 rfl hl.out ?_)
 refine (HP.out _ B N cs hN (HKA.out _ HU.out).1 (HKA.out _ HU.out).2.1 (HKA.out _ HU.out).2.2).mono ?_
 rw [HST.out]
 rintro e wv ⟨rfl,hb2⟩
 have HV:=Hd (belowThen HU.out hb2)
 clear hb2
 go_wp2_with fail
 go_ret
 exact ⟨by rw [HST.out];rfl,HV.out⟩
set_option maxRecDepth 100000 in
set_option maxHeartbeats 6400000 in
theorem src_22 (f:ExprD→ByteArray) (x:ExprD) (ho:x.op=22) (hp:∀ (w:World) (B N:Nat) (cs:List Value),N≤1048576→B≤w.heap.size→Env w→ExprD.At w B N x cs→Calls Tryz.prog 71 #[.agg cs.toArray] w (StrB (stepT f x) w))
 (w:World) (B N:Nat) (cs:List Value) (hN:N≤1048576) (hB:B≤w.heap.size) (hE:Env w) (hx:ExprD.At w B N x cs):Calls Tryz.prog 24 #[.agg cs.toArray] w (StrB (stepT f x) w):=by
 have HX:=Hd hx
 have HE:=Hd hE
 have HO:=Hd ho
 have HP:=Hd hp
 have hl:=Hd (show (Tryz.prog.info? 34).map (·.size)=some cs.length by rw [hx.len];kernel_rfl)
 obtain ⟨aa,fa,ac,fc,vs,hh⟩:=hx.has
 have HC0:=Hd (show cs[0]?=some (.int .i64 22) by rw [← ho];exact hh.op)
 have hnm:=Hd (show x.name.size≤1048576 from Nat.le_trans hh.own.2.1 hN)
 obtain ⟨nm,hnm2⟩:∃ nm,x.name=nm:=⟨_,rfl⟩
 have HNE:=Hd hnm2
 have znm:nm.size≤1048576:=by rw [← hnm2];exact hnm.out
 have HC1:=Hd (show cs[1]?=some (.string nm) by rw [← hnm2];exact hh.name)
 obtain ⟨w1,hw1⟩:∃ w1,w1=w.alloc (.cells cs.toArray 34):=⟨_,rfl⟩
 have HW:=Hd hw1
 have R0:=Hd (show RowT 34 w1 w.heap.size cs by rw [hw1];exact RowT.new w 34 cs)
 have H0:=Hd (show Below w.heap.size w w1 by rw [hw1];exact belowBox w _)
 have HKA:=Hd (show ∀ v,Below w.heap.size w v→B≤v.heap.size∧Env v∧ExprD.At v B N x cs from fun v hv=>⟨Nat.le_trans hB hv.size,HE.out.then hv,HX.out.below (hv.mono hB)⟩)
 have e0:=R0.out.cell HC0.out
 have e1:=R0.out.cell HC1.out
 rw [hw1] at e0 e1
 obtain ⟨s,hs⟩:∃ s,stepT f x=s:=⟨_,rfl⟩
 have HST:=Hd hs
 clear hx hE hh ho hnm2 hw1 hs hp
 go_enter Tryz.func24,Tryz.ntmps24
 go_wp2_with ((with_reducible show wpList _ _ _ (⟨some 94,_,_,_,_,_⟩::_) _ _);refine wpList_load_mid rfl 34 _ rfl w.heap.size 0 rfl cs _ (by rw [← HW.out];exact R0.out.range) Tryz.underlying34 rfl hl.out ?_)
 rw [← HW.out]
 refine (infix_no_22 x HO.out _ B N cs hN (HKA.out _ H0.out).1 (HKA.out _ H0.out).2.1 (HKA.out _ H0.out).2.2).mono ?_
 rintro e wu ⟨rfl,hb1⟩
 have HU:=Hd (belowThen H0.out hb1)
 have RU:=Hd (R0.out.then hb1)
 clear hb1
 go_wp2_with ((with_reducible show wpList _ _ _ (⟨some 99,_,_,_,_,_⟩::_) _ _);refine wpList_load_mid rfl 34 _ rfl w.heap.size 0 rfl cs _ RU.out.range Tryz.underlying34 rfl hl.out ?_)
 refine (HP.out _ B N cs hN (HKA.out _ HU.out).1 (HKA.out _ HU.out).2.1 (HKA.out _ HU.out).2.2).mono ?_
 rw [HST.out]
 rintro e wv ⟨rfl,hb2⟩
 have HV:=Hd (belowThen HU.out hb2)
 clear hb2
 go_wp2_with fail
 go_ret
 exact ⟨by rw [HST.out];rfl,HV.out⟩
set_option maxRecDepth 100000 in
set_option maxHeartbeats 6400000 in
theorem src_26 (f:ExprD→ByteArray) (x:ExprD) (ho:x.op=26) (hp:∀ (w:World) (B N:Nat) (cs:List Value),N≤1048576→B≤w.heap.size→Env w→ExprD.At w B N x cs→Calls Tryz.prog 71 #[.agg cs.toArray] w (StrB (stepT f x) w))
 (w:World) (B N:Nat) (cs:List Value) (hN:N≤1048576) (hB:B≤w.heap.size) (hE:Env w) (hx:ExprD.At w B N x cs):Calls Tryz.prog 24 #[.agg cs.toArray] w (StrB (stepT f x) w):=by
 have HX:=Hd hx
 have HE:=Hd hE
 have HO:=Hd ho
 have HP:=Hd hp
 have hl:=Hd (show (Tryz.prog.info? 34).map (·.size)=some cs.length by rw [hx.len];kernel_rfl)
 obtain ⟨aa,fa,ac,fc,vs,hh⟩:=hx.has
 have HC0:=Hd (show cs[0]?=some (.int .i64 26) by rw [← ho];exact hh.op)
 have hnm:=Hd (show x.name.size≤1048576 from Nat.le_trans hh.own.2.1 hN)
 obtain ⟨nm,hnm2⟩:∃ nm,x.name=nm:=⟨_,rfl⟩
 have HNE:=Hd hnm2
 have znm:nm.size≤1048576:=by rw [← hnm2];exact hnm.out
 have HC1:=Hd (show cs[1]?=some (.string nm) by rw [← hnm2];exact hh.name)
 obtain ⟨w1,hw1⟩:∃ w1,w1=w.alloc (.cells cs.toArray 34):=⟨_,rfl⟩
 have HW:=Hd hw1
 have R0:=Hd (show RowT 34 w1 w.heap.size cs by rw [hw1];exact RowT.new w 34 cs)
 have H0:=Hd (show Below w.heap.size w w1 by rw [hw1];exact belowBox w _)
 have HKA:=Hd (show ∀ v,Below w.heap.size w v→B≤v.heap.size∧Env v∧ExprD.At v B N x cs from fun v hv=>⟨Nat.le_trans hB hv.size,HE.out.then hv,HX.out.below (hv.mono hB)⟩)
 have e0:=R0.out.cell HC0.out
 have e1:=R0.out.cell HC1.out
 rw [hw1] at e0 e1
 obtain ⟨s,hs⟩:∃ s,stepT f x=s:=⟨_,rfl⟩
 have HST:=Hd hs
 clear hx hE hh ho hnm2 hw1 hs hp
 go_enter Tryz.func24,Tryz.ntmps24
 go_wp2_with ((with_reducible show wpList _ _ _ (⟨some 94,_,_,_,_,_⟩::_) _ _);refine wpList_load_mid rfl 34 _ rfl w.heap.size 0 rfl cs _ (by rw [← HW.out];exact R0.out.range) Tryz.underlying34 rfl hl.out ?_)
 rw [← HW.out]
 refine (infix_no_26 x HO.out _ B N cs hN (HKA.out _ H0.out).1 (HKA.out _ H0.out).2.1 (HKA.out _ H0.out).2.2).mono ?_
 rintro e wu ⟨rfl,hb1⟩
 have HU:=Hd (belowThen H0.out hb1)
 have RU:=Hd (R0.out.then hb1)
 clear hb1
 go_wp2_with ((with_reducible show wpList _ _ _ (⟨some 99,_,_,_,_,_⟩::_) _ _);refine wpList_load_mid rfl 34 _ rfl w.heap.size 0 rfl cs _ RU.out.range Tryz.underlying34 rfl hl.out ?_)
 refine (HP.out _ B N cs hN (HKA.out _ HU.out).1 (HKA.out _ HU.out).2.1 (HKA.out _ HU.out).2.2).mono ?_
 rw [HST.out]
 rintro e wv ⟨rfl,hb2⟩
 have HV:=Hd (belowThen HU.out hb2)
 clear hb2
 go_wp2_with fail
 go_ret
 exact ⟨by rw [HST.out];rfl,HV.out⟩
set_option maxRecDepth 100000 in
set_option maxHeartbeats 6400000 in
theorem src_17 (f:ExprD→ByteArray) (x:ExprD) (ho:x.op=17) (hp:∀ (w:World) (B N:Nat) (cs:List Value),N≤1048576→B≤w.heap.size→Env w→ExprD.At w B N x cs→Calls Tryz.prog 71 #[.agg cs.toArray] w (StrB (stepT f x) w))
 (w:World) (B N:Nat) (cs:List Value) (hN:N≤1048576) (hB:B≤w.heap.size) (hE:Env w) (hx:ExprD.At w B N x cs):Calls Tryz.prog 24 #[.agg cs.toArray] w (StrB (stepT f x) w):=by
 have HX:=Hd hx
 have HE:=Hd hE
 have HO:=Hd ho
 have HP:=Hd hp
 have hl:=Hd (show (Tryz.prog.info? 34).map (·.size)=some cs.length by rw [hx.len];kernel_rfl)
 obtain ⟨aa,fa,ac,fc,vs,hh⟩:=hx.has
 have HC0:=Hd (show cs[0]?=some (.int .i64 17) by rw [← ho];exact hh.op)
 have hnm:=Hd (show x.name.size≤1048576 from Nat.le_trans hh.own.2.1 hN)
 obtain ⟨nm,hnm2⟩:∃ nm,x.name=nm:=⟨_,rfl⟩
 have HNE:=Hd hnm2
 have znm:nm.size≤1048576:=by rw [← hnm2];exact hnm.out
 have HC1:=Hd (show cs[1]?=some (.string nm) by rw [← hnm2];exact hh.name)
 obtain ⟨w1,hw1⟩:∃ w1,w1=w.alloc (.cells cs.toArray 34):=⟨_,rfl⟩
 have HW:=Hd hw1
 have R0:=Hd (show RowT 34 w1 w.heap.size cs by rw [hw1];exact RowT.new w 34 cs)
 have H0:=Hd (show Below w.heap.size w w1 by rw [hw1];exact belowBox w _)
 have HKA:=Hd (show ∀ v,Below w.heap.size w v→B≤v.heap.size∧Env v∧ExprD.At v B N x cs from fun v hv=>⟨Nat.le_trans hB hv.size,HE.out.then hv,HX.out.below (hv.mono hB)⟩)
 have e0:=R0.out.cell HC0.out
 have e1:=R0.out.cell HC1.out
 rw [hw1] at e0 e1
 obtain ⟨s,hs⟩:∃ s,stepT f x=s:=⟨_,rfl⟩
 have HST:=Hd hs
 clear hx hE hh ho hnm2 hw1 hs hp
 go_enter Tryz.func24,Tryz.ntmps24
 go_wp2_with ((with_reducible show wpList _ _ _ (⟨some 94,_,_,_,_,_⟩::_) _ _);refine wpList_load_mid rfl 34 _ rfl w.heap.size 0 rfl cs _ (by rw [← HW.out];exact R0.out.range) Tryz.underlying34 rfl hl.out ?_)
 rw [← HW.out]
 refine (infix_no_17 x HO.out _ B N cs hN (HKA.out _ H0.out).1 (HKA.out _ H0.out).2.1 (HKA.out _ H0.out).2.2).mono ?_
 rintro e wu ⟨rfl,hb1⟩
 have HU:=Hd (belowThen H0.out hb1)
 have RU:=Hd (R0.out.then hb1)
 clear hb1
 go_wp2_with ((with_reducible show wpList _ _ _ (⟨some 99,_,_,_,_,_⟩::_) _ _);refine wpList_load_mid rfl 34 _ rfl w.heap.size 0 rfl cs _ RU.out.range Tryz.underlying34 rfl hl.out ?_)
 refine (HP.out _ B N cs hN (HKA.out _ HU.out).1 (HKA.out _ HU.out).2.1 (HKA.out _ HU.out).2.2).mono ?_
 rw [HST.out]
 rintro e wv ⟨rfl,hb2⟩
 have HV:=Hd (belowThen HU.out hb2)
 clear hb2
 go_wp2_with fail
 go_ret
 exact ⟨by rw [HST.out];rfl,HV.out⟩
set_option maxRecDepth 100000 in
set_option maxHeartbeats 6400000 in
theorem src_23 (f:ExprD→ByteArray) (x:ExprD) (ho:x.op=23) (hp:∀ (w:World) (B N:Nat) (cs:List Value),N≤1048576→B≤w.heap.size→Env w→ExprD.At w B N x cs→Calls Tryz.prog 71 #[.agg cs.toArray] w (StrB (stepT f x) w))
 (w:World) (B N:Nat) (cs:List Value) (hN:N≤1048576) (hB:B≤w.heap.size) (hE:Env w) (hx:ExprD.At w B N x cs):Calls Tryz.prog 24 #[.agg cs.toArray] w (StrB (stepT f x) w):=by
 have HX:=Hd hx
 have HE:=Hd hE
 have HO:=Hd ho
 have HP:=Hd hp
 have hl:=Hd (show (Tryz.prog.info? 34).map (·.size)=some cs.length by rw [hx.len];kernel_rfl)
 obtain ⟨aa,fa,ac,fc,vs,hh⟩:=hx.has
 have HC0:=Hd (show cs[0]?=some (.int .i64 23) by rw [← ho];exact hh.op)
 have hnm:=Hd (show x.name.size≤1048576 from Nat.le_trans hh.own.2.1 hN)
 obtain ⟨nm,hnm2⟩:∃ nm,x.name=nm:=⟨_,rfl⟩
 have HNE:=Hd hnm2
 have znm:nm.size≤1048576:=by rw [← hnm2];exact hnm.out
 have HC1:=Hd (show cs[1]?=some (.string nm) by rw [← hnm2];exact hh.name)
 obtain ⟨w1,hw1⟩:∃ w1,w1=w.alloc (.cells cs.toArray 34):=⟨_,rfl⟩
 have HW:=Hd hw1
 have R0:=Hd (show RowT 34 w1 w.heap.size cs by rw [hw1];exact RowT.new w 34 cs)
 have H0:=Hd (show Below w.heap.size w w1 by rw [hw1];exact belowBox w _)
 have HKA:=Hd (show ∀ v,Below w.heap.size w v→B≤v.heap.size∧Env v∧ExprD.At v B N x cs from fun v hv=>⟨Nat.le_trans hB hv.size,HE.out.then hv,HX.out.below (hv.mono hB)⟩)
 have e0:=R0.out.cell HC0.out
 have e1:=R0.out.cell HC1.out
 rw [hw1] at e0 e1
 obtain ⟨s,hs⟩:∃ s,stepT f x=s:=⟨_,rfl⟩
 have HST:=Hd hs
 clear hx hE hh ho hnm2 hw1 hs hp
 go_enter Tryz.func24,Tryz.ntmps24
 go_wp2_with ((with_reducible show wpList _ _ _ (⟨some 94,_,_,_,_,_⟩::_) _ _);refine wpList_load_mid rfl 34 _ rfl w.heap.size 0 rfl cs _ (by rw [← HW.out];exact R0.out.range) Tryz.underlying34 rfl hl.out ?_)
 rw [← HW.out]
 refine (infix_no_23 x HO.out _ B N cs hN (HKA.out _ H0.out).1 (HKA.out _ H0.out).2.1 (HKA.out _ H0.out).2.2).mono ?_
 rintro e wu ⟨rfl,hb1⟩
 have HU:=Hd (belowThen H0.out hb1)
 have RU:=Hd (R0.out.then hb1)
 clear hb1
 go_wp2_with ((with_reducible show wpList _ _ _ (⟨some 99,_,_,_,_,_⟩::_) _ _);refine wpList_load_mid rfl 34 _ rfl w.heap.size 0 rfl cs _ RU.out.range Tryz.underlying34 rfl hl.out ?_)
 refine (HP.out _ B N cs hN (HKA.out _ HU.out).1 (HKA.out _ HU.out).2.1 (HKA.out _ HU.out).2.2).mono ?_
 rw [HST.out]
 rintro e wv ⟨rfl,hb2⟩
 have HV:=Hd (belowThen HU.out hb2)
 clear hb2
 go_wp2_with fail
 go_ret
 exact ⟨by rw [HST.out];rfl,HV.out⟩
end Go.Proofs.YtiefeajappjnbaaGreatDoor
