/- The reference's word, but for definitions (printed by genref36.py). -/
import Derived.Test.YtiefeajappjnbaaGreatDoorGA
import Derived.Test.YtiefeajappjnbaaGreatDoorMK
namespace Go.Proofs.YtiefeajappjnbaaGreatDoor
open Go.RowKit
set_option maxRecDepth 100000 in
set_option maxHeartbeats 6400000 in
theorem word_27 (f:ExprD→ByteArray) (x:ExprD) (ho:x.op=27)
 (w:World) (B N:Nat) (cs:List Value) (hN:N≤1048576) (hB:B≤w.heap.size) (hE:Env w) (hx:ExprD.At w B N x cs):Calls Tryz.prog 71 #[.agg cs.toArray] w (StrB (stepT f x) w):=by
 have HX:=Hd hx
 have HE:=Hd hE
 have HO:=Hd ho
 have hl:=Hd (show (Tryz.prog.info? 34).map (·.size)=some cs.length by rw [hx.len];kernel_rfl)
 obtain ⟨aa,fa,ac,fc,vs,hh⟩:=hx.has
 have HC0:=Hd (show cs[0]?=some (.int .i64 27) by rw [← ho];exact hh.op)
 have hnm:=Hd (show x.name.size≤1048576 from Nat.le_trans hh.own.2.1 hN)
 obtain ⟨nm,hnm2⟩:∃ nm,x.name=nm:=⟨_,rfl⟩
 have HNE:=Hd hnm2
 have znm:nm.size≤1048576:=by rw [← hnm2];exact hnm.out
 have HC1:=Hd (show cs[1]?=some (.string nm) by rw [← hnm2];exact hh.name)
 obtain ⟨w1,hw1⟩:∃ w1,w1=w.alloc (.cells cs.toArray 34):=⟨_,rfl⟩
 have HW:=Hd hw1
 have R0:=Hd (show RowT 34 w1 w.heap.size cs by rw [hw1];exact RowT.new w 34 cs)
 have H0:=Hd (show Below w.heap.size w w1 by rw [hw1];exact belowBox w _)
 have HKA:=Hd (show ∀ v,Below w.heap.size w v→B≤v.heap.size∧Env v∧ExprD.At v B N x cs from fun v hv=>⟨Nat.le_trans hB hv.size,HE.out.then hv,HX.out.below (hv.mono hB)⟩)
 have e0:=R0.out.cell HC0.out
 have e1:=R0.out.cell HC1.out
 rw [hw1] at e0 e1
 obtain ⟨s,hs⟩:∃ s,stepT f x=s:=⟨_,rfl⟩
 have HST:=Hd hs
 have HR:=Hd (show s=⟨#[98,114,101,97,107,32,36]⟩++nm by
  rw [← HST.out]
  unfold stepT
  rw [HO.out]
  simp only [if_true,if_false,Int.reduceEq]
  rw [hnm2])
 clear hx hE hh ho hnm2 hw1 hs
 go_enter Tryz.func71,Tryz.ntmps71
 have sc1:(⟨#[98,114,101,97,107,32,36]⟩:ByteArray).size+(nm:ByteArray).size≤9223372036854775807:=by simp only [szl,List.size_toArray,List.length_cons,List.length_nil];omega
 go_wp2_with fail
 go_ret
 exact ⟨by rw [HST.out,HR.out];rfl,(by rw [← HW.out];exact H0.out)⟩
set_option maxRecDepth 100000 in
set_option maxHeartbeats 6400000 in
theorem word_18 (f:ExprD→ByteArray) (x:ExprD) (ho:x.op=18) (hn:x.args.length=3) (k0:KidR f (x.args.getD 0 default)) (k1:KidR f (x.args.getD 1 default)) (k2:AftR f (x.args.getD 2 default))
 (w:World) (B N:Nat) (cs:List Value) (hN:N≤1048576) (hB:B≤w.heap.size) (hE:Env w) (hx:ExprD.At w B N x cs):Calls Tryz.prog 71 #[.agg cs.toArray] w (StrB (stepT f x) w):=by
 have HX:=Hd hx
 have HE:=Hd hE
 have HO:=Hd ho
 have K0:=Hd k0
 have K1:=Hd k1
 have K2:=Hd k2
 have hl:=Hd (show (Tryz.prog.info? 34).map (·.size)=some cs.length by rw [hx.len];kernel_rfl)
 obtain ⟨aa,fa,ac,fc,vs,hh⟩:=hx.has
 have HC0:=Hd (show cs[0]?=some (.int .i64 18) by rw [← ho];exact hh.op)
 have hnm:=Hd (show x.name.size≤1048576 from Nat.le_trans hh.own.2.1 hN)
 obtain ⟨nm,hnm2⟩:∃ nm,x.name=nm:=⟨_,rfl⟩
 have HNE:=Hd hnm2
 have znm:nm.size≤1048576:=by rw [← hnm2];exact hnm.out
 have HC1:=Hd (show cs[1]?=some (.string nm) by rw [← hnm2];exact hh.name)
 obtain ⟨b,o,haa,hb,hget⟩:=args_at hh (n:=3) hn (by decide)
 have HC15:=Hd (show cs[15]?=some (.slice (some ⟨b,o,none⟩) 3 ac) by rw [hh.args,hn,haa])
 obtain ⟨a0,r0,q0⟩:=hget 0 (by decide)
 have HR0:=Hd (show CellsAt w b (o) a0 by simpa using r0)
 have HQ0:=Hd q0
 have hl0:=Hd (show (Tryz.prog.info? 34).map (·.size)=some a0.length by rw [q0.len];kernel_rfl)
 obtain ⟨a1,r1,q1⟩:=hget 1 (by decide)
 have HR1:=Hd (show CellsAt w b (o+17) a1 by simpa using r1)
 have HQ1:=Hd q1
 have hl1:=Hd (show (Tryz.prog.info? 34).map (·.size)=some a1.length by rw [q1.len];kernel_rfl)
 obtain ⟨a2,r2,q2⟩:=hget 2 (by decide)
 have HR2:=Hd (show CellsAt w b (o+34) a2 by simpa using r2)
 have HQ2:=Hd q2
 have hl2:=Hd (show (Tryz.prog.info? 34).map (·.size)=some a2.length by rw [q2.len];kernel_rfl)
 obtain ⟨w1,hw1⟩:∃ w1,w1=w.alloc (.cells cs.toArray 34):=⟨_,rfl⟩
 have HW:=Hd hw1
 have R0:=Hd (show RowT 34 w1 w.heap.size cs by rw [hw1];exact RowT.new w 34 cs)
 have H0:=Hd (show Below w.heap.size w w1 by rw [hw1];exact belowBox w _)
 have HKA:=Hd (show ∀ v,Below w.heap.size w v→B≤v.heap.size∧Env v∧ExprD.At v B N (x.args.getD 0 default) a0∧ExprD.At v B N (x.args.getD 1 default) a1∧ExprD.At v B N (x.args.getD 2 default) a2∧ExprD.At v B N x cs from fun v hv=>⟨Nat.le_trans hB hv.size,HE.out.then hv,HQ0.out.below (hv.mono hB),HQ1.out.below (hv.mono hB),HQ2.out.below (hv.mono hB),HX.out.below (hv.mono hB)⟩)
 have e0:=R0.out.cell HC0.out
 have e1:=R0.out.cell HC1.out
 have e15:=R0.out.cell HC15.out
 rw [hw1] at e0 e1 e15
 obtain ⟨s,hs⟩:∃ s,stepT f x=s:=⟨_,rfl⟩
 have HST:=Hd hs
 obtain ⟨s0,hs0⟩:∃ z,f (x.args.getD 0 default)=z:=⟨_,rfl⟩
 have HS0:=Hd hs0
 have zs0:s0.size≤274877906960:=by rw [← hs0];exact Nat.le_trans K0.out.size (by decide)
 obtain ⟨s1,hs1⟩:∃ z,f (x.args.getD 1 default)=z:=⟨_,rfl⟩
 have HS1:=Hd hs1
 have zs1:s1.size≤274877906960:=by rw [← hs1];exact Nat.le_trans K1.out.size (by decide)
 obtain ⟨s2,hs2⟩:∃ z,aftS f ⟨#[32,101,108,115,101,32]⟩ (x.args.getD 2 default)=z:=⟨_,rfl⟩
 have HS2:=Hd hs2
 have zs2:s2.size≤274877906960:=by rw [← hs2];exact aftS_le K2.out (by decide)
 have HR:=Hd (show s=⟨#[105,102,32]⟩++s0++⟨#[32,116,104,101,110,32]⟩++s1++s2++⟨#[32,101,110,100]⟩ by
  rw [← HST.out]
  unfold stepT
  rw [HO.out]
  simp only [if_true,if_false,Int.reduceEq]
  rw [hs0,hs1,← hs2]
  rfl)
 clear hx hE hh ho hnm2 hw1 hs hn haa hget k0 k1 k2 hs0 hs1 hs2
 go_enter Tryz.func71,Tryz.ntmps71
 go_wp2_with fail
 rw [← HW.out]
 refine wp_region_held_drew (S:=fun u=>Below w1.heap.size w1 u) (by kernel_rfl) (drewU w1) (fun hHeld=>?_)
 refine' tk 0 (.pointer (some ⟨w.heap.size,15,none⟩)) rfl rfl (.inl ⟨by rfl,fun u hu=>(by go_simp)⟩) hHeld ?_
 simp only [sq1,sq0]
 refine' tk 1 (.slice (some ⟨b,o,none⟩) 3 ac) rfl rfl (.inl ⟨by rfl,fun u hu=>(by have hc:=(R0.out.then hu).cell HC15.out;go_simp)⟩) hHeld ?_
 simp only [sq1,sq0]
 refine' tk 2 (.pointer (some ⟨b,o,none⟩)) rfl rfl (.inl ⟨by rfl,fun u hu=>(by go_simp)⟩) hHeld ?_
 simp only [sq1,sq0]
 refine' tk 3 _ rfl rfl (yieldsIf_load_mid (by kernel_rfl) 34 _ rfl (b) (o) rfl a0 _ (fun u hu=>(HR0.out.below ((belowThen H0.out hu).mono hB) hb).range) Tryz.underlying34 rfl hl0.out) hHeld ?_
 simp only [sq1,sq0]
 refine' tk 7 (.pointer (some ⟨w.heap.size,15,none⟩)) rfl rfl (.inl ⟨by rfl,fun u hu=>(by go_simp)⟩) hHeld ?_
 simp only [sq1,sq0]
 refine' tk 8 (.slice (some ⟨b,o,none⟩) 3 ac) rfl rfl (.inl ⟨by rfl,fun u hu=>(by have hc:=(R0.out.then hu).cell HC15.out;go_simp)⟩) hHeld ?_
 simp only [sq1,sq0]
 refine' tk 9 (.pointer (some ⟨b,o+17,none⟩)) rfl rfl (.inl ⟨by rfl,fun u hu=>(by go_simp)⟩) hHeld ?_
 simp only [sq1,sq0]
 refine' tk 10 _ rfl rfl (yieldsIf_load_mid (by kernel_rfl) 34 _ rfl (b) (o+17) rfl a1 _ (fun u hu=>(HR1.out.below ((belowThen H0.out hu).mono hB) hb).range) Tryz.underlying34 rfl hl1.out) hHeld ?_
 simp only [sq1,sq0]
 refine' tk 13 (.pointer (some ⟨w.heap.size,15,none⟩)) rfl rfl (.inl ⟨by rfl,fun u hu=>(by go_simp)⟩) hHeld ?_
 simp only [sq1,sq0]
 refine' tk 14 (.slice (some ⟨b,o,none⟩) 3 ac) rfl rfl (.inl ⟨by rfl,fun u hu=>(by have hc:=(R0.out.then hu).cell HC15.out;go_simp)⟩) hHeld ?_
 simp only [sq1,sq0]
 refine' tk 15 (.pointer (some ⟨b,o+34,none⟩)) rfl rfl (.inl ⟨by rfl,fun u hu=>(by go_simp)⟩) hHeld ?_
 simp only [sq1,sq0]
 refine' tk 16 _ rfl rfl (yieldsIf_load_mid (by kernel_rfl) 34 _ rfl (b) (o+34) rfl a2 _ (fun u hu=>(HR2.out.below ((belowThen H0.out hu).mono hB) hb).range) Tryz.underlying34 rfl hl2.out) hHeld ?_
 simp only [sq1,sq0]
 refine rd1 4 rfl (fun K hK=>?_)
 go_simp
 refine (K0.out.call _ B N a0 hN (HKA.out _ (belowThen H0.out hHeld)).1 (HKA.out _ (belowThen H0.out hHeld)).2.1 (HKA.out _ (belowThen H0.out hHeld)).2.2.1).mono ?_
 rw [HS0.out]
 rintro e uC1 ⟨rfl,hbC⟩
 refine hK.out _ _ (belowThen hHeld hbC) (fun hHeld1=>?_)
 clear hK K hbC hHeld
 have hHeld:=hHeld1
 clear hHeld1
 refine' tk 5 (.string (⟨#[105,102,32]⟩++s0)) rfl rfl (.inl ⟨by rfl,fun u hu=>(by go_simp;all_goals omega)⟩) hHeld ?_
 simp only [sq1,sq0]
 refine' tk 6 (.string ((⟨#[105,102,32]⟩++s0)++⟨#[32,116,104,101,110,32]⟩)) rfl rfl (.inl ⟨by rfl,fun u hu=>(by go_simp;all_goals omega)⟩) hHeld ?_
 simp only [sq1,sq0]
 refine rd1 11 rfl (fun K hK=>?_)
 go_simp
 refine (K1.out.call _ B N a1 hN (HKA.out _ (belowThen H0.out hHeld)).1 (HKA.out _ (belowThen H0.out hHeld)).2.1 (HKA.out _ (belowThen H0.out hHeld)).2.2.2.1).mono ?_
 rw [HS1.out]
 rintro e uC2 ⟨rfl,hbC⟩
 refine hK.out _ _ (belowThen hHeld hbC) (fun hHeld2=>?_)
 clear hK K hbC hHeld
 have hHeld:=hHeld2
 clear hHeld2
 refine' tk 12 (.string (((⟨#[105,102,32]⟩++s0)++⟨#[32,116,104,101,110,32]⟩)++s1)) rfl rfl (.inl ⟨by rfl,fun u hu=>(by go_simp;all_goals omega)⟩) hHeld ?_
 simp only [sq1,sq0]
 refine rd1 17 rfl (fun K hK=>?_)
 go_simp
 refine (after_r f ⟨#[32,101,108,115,101,32]⟩ (by decide) _ K2.out _ B N a2 hN (HKA.out _ (belowThen H0.out hHeld)).1 (HKA.out _ (belowThen H0.out hHeld)).2.1 (HKA.out _ (belowThen H0.out hHeld)).2.2.2.2.1).mono ?_
 rw [HS2.out]
 rintro e uC3 ⟨rfl,hbC⟩
 refine hK.out _ _ (belowThen hHeld hbC) (fun hHeld3=>?_)
 clear hK K hbC hHeld
 have hHeld:=hHeld3
 clear hHeld3
 refine' tk 18 (.string ((((⟨#[105,102,32]⟩++s0)++⟨#[32,116,104,101,110,32]⟩)++s1)++s2)) rfl rfl (.inl ⟨by rfl,fun u hu=>(by go_simp;all_goals omega)⟩) hHeld ?_
 simp only [sq1,sq0]
 refine' tk 19 (.string (((((⟨#[105,102,32]⟩++s0)++⟨#[32,116,104,101,110,32]⟩)++s1)++s2)++⟨#[32,101,110,100]⟩)) rfl rfl (.inl ⟨by rfl,fun u hu=>(by go_simp;all_goals omega)⟩) hHeld ?_
 simp only [sq1,sq0]
 refine rd1 20 rfl (fun K hK=>?_)
 go_simp
 refine hK.out _ _ hHeld (fun hHeldx=>?_)
 clear hK K hHeldx
 refine wpAnyH_done (by kernel_rfl) ?_ _
 go_wp2_with fail
 go_ret
 exact ⟨by rw [HST.out,HR.out];rfl,belowThen H0.out hHeld⟩
set_option maxRecDepth 100000 in
set_option maxHeartbeats 6400000 in
theorem word_19 (f:ExprD→ByteArray) (x:ExprD) (ho:x.op=19) (hn:x.args.length=3) (k0:KidR f (x.args.getD 0 default)) (k1:KidR f (x.args.getD 1 default)) (k2:KidR f (x.args.getD 2 default))
 (w:World) (B N:Nat) (cs:List Value) (hN:N≤1048576) (hB:B≤w.heap.size) (hE:Env w) (hx:ExprD.At w B N x cs):Calls Tryz.prog 71 #[.agg cs.toArray] w (StrB (stepT f x) w):=by
 have HX:=Hd hx
 have HE:=Hd hE
 have HO:=Hd ho
 have K0:=Hd k0
 have K1:=Hd k1
 have K2:=Hd k2
 have hl:=Hd (show (Tryz.prog.info? 34).map (·.size)=some cs.length by rw [hx.len];kernel_rfl)
 obtain ⟨aa,fa,ac,fc,vs,hh⟩:=hx.has
 have HC0:=Hd (show cs[0]?=some (.int .i64 19) by rw [← ho];exact hh.op)
 have hnm:=Hd (show x.name.size≤1048576 from Nat.le_trans hh.own.2.1 hN)
 obtain ⟨nm,hnm2⟩:∃ nm,x.name=nm:=⟨_,rfl⟩
 have HNE:=Hd hnm2
 have znm:nm.size≤1048576:=by rw [← hnm2];exact hnm.out
 have HC1:=Hd (show cs[1]?=some (.string nm) by rw [← hnm2];exact hh.name)
 obtain ⟨b,o,haa,hb,hget⟩:=args_at hh (n:=3) hn (by decide)
 have HC15:=Hd (show cs[15]?=some (.slice (some ⟨b,o,none⟩) 3 ac) by rw [hh.args,hn,haa])
 obtain ⟨a0,r0,q0⟩:=hget 0 (by decide)
 have HR0:=Hd (show CellsAt w b (o) a0 by simpa using r0)
 have HQ0:=Hd q0
 have hl0:=Hd (show (Tryz.prog.info? 34).map (·.size)=some a0.length by rw [q0.len];kernel_rfl)
 obtain ⟨a1,r1,q1⟩:=hget 1 (by decide)
 have HR1:=Hd (show CellsAt w b (o+17) a1 by simpa using r1)
 have HQ1:=Hd q1
 have hl1:=Hd (show (Tryz.prog.info? 34).map (·.size)=some a1.length by rw [q1.len];kernel_rfl)
 obtain ⟨a2,r2,q2⟩:=hget 2 (by decide)
 have HR2:=Hd (show CellsAt w b (o+34) a2 by simpa using r2)
 have HQ2:=Hd q2
 have hl2:=Hd (show (Tryz.prog.info? 34).map (·.size)=some a2.length by rw [q2.len];kernel_rfl)
 obtain ⟨w1,hw1⟩:∃ w1,w1=w.alloc (.cells cs.toArray 34):=⟨_,rfl⟩
 have HW:=Hd hw1
 have R0:=Hd (show RowT 34 w1 w.heap.size cs by rw [hw1];exact RowT.new w 34 cs)
 have H0:=Hd (show Below w.heap.size w w1 by rw [hw1];exact belowBox w _)
 have HKA:=Hd (show ∀ v,Below w.heap.size w v→B≤v.heap.size∧Env v∧ExprD.At v B N (x.args.getD 0 default) a0∧ExprD.At v B N (x.args.getD 1 default) a1∧ExprD.At v B N (x.args.getD 2 default) a2∧ExprD.At v B N x cs from fun v hv=>⟨Nat.le_trans hB hv.size,HE.out.then hv,HQ0.out.below (hv.mono hB),HQ1.out.below (hv.mono hB),HQ2.out.below (hv.mono hB),HX.out.below (hv.mono hB)⟩)
 have e0:=R0.out.cell HC0.out
 have e1:=R0.out.cell HC1.out
 have e15:=R0.out.cell HC15.out
 rw [hw1] at e0 e1 e15
 obtain ⟨s,hs⟩:∃ s,stepT f x=s:=⟨_,rfl⟩
 have HST:=Hd hs
 obtain ⟨s0,hs0⟩:∃ z,atS f 10 (x.args.getD 0 default)=z:=⟨_,rfl⟩
 have HS0:=Hd hs0
 have zs0:s0.size≤274877906960:=by rw [← hs0];exact Nat.le_trans (atS_le f _ _) (Nat.le_trans (Nat.add_le_add_right K0.out.size 2) (by decide))
 obtain ⟨s1,hs1⟩:∃ z,f (x.args.getD 1 default)=z:=⟨_,rfl⟩
 have HS1:=Hd hs1
 have zs1:s1.size≤274877906960:=by rw [← hs1];exact Nat.le_trans K1.out.size (by decide)
 obtain ⟨s2,hs2⟩:∃ z,f (x.args.getD 2 default)=z:=⟨_,rfl⟩
 have HS2:=Hd hs2
 have zs2:s2.size≤274877906960:=by rw [← hs2];exact Nat.le_trans K2.out.size (by decide)
 have HR:=Hd (show s=⟨#[114,101,100,117,99,101,32]⟩++s0++⟨#[32,97,115,32,36]⟩++nm++⟨#[32,40]⟩++s1++⟨#[59,32]⟩++s2++⟨#[41]⟩ by
  rw [← HST.out]
  unfold stepT
  rw [HO.out]
  simp only [if_true,if_false,Int.reduceEq]
  rw [hs0,hs1,hs2,hnm2])
 clear hx hE hh ho hnm2 hw1 hs hn haa hget k0 k1 k2 hs0 hs1 hs2
 go_enter Tryz.func71,Tryz.ntmps71
 go_wp2_with fail
 rw [← HW.out]
 refine wp_region_held_drew (S:=fun u=>Below w1.heap.size w1 u) (by kernel_rfl) (drewU w1) (fun hHeld=>?_)
 refine' tk 0 (.pointer (some ⟨w.heap.size,15,none⟩)) rfl rfl (.inl ⟨by rfl,fun u hu=>(by go_simp)⟩) hHeld ?_
 simp only [sq1,sq0]
 refine' tk 1 (.slice (some ⟨b,o,none⟩) 3 ac) rfl rfl (.inl ⟨by rfl,fun u hu=>(by have hc:=(R0.out.then hu).cell HC15.out;go_simp)⟩) hHeld ?_
 simp only [sq1,sq0]
 refine' tk 2 (.pointer (some ⟨b,o,none⟩)) rfl rfl (.inl ⟨by rfl,fun u hu=>(by go_simp)⟩) hHeld ?_
 simp only [sq1,sq0]
 refine' tk 3 _ rfl rfl (yieldsIf_load_mid (by kernel_rfl) 34 _ rfl (b) (o) rfl a0 _ (fun u hu=>(HR0.out.below ((belowThen H0.out hu).mono hB) hb).range) Tryz.underlying34 rfl hl0.out) hHeld ?_
 simp only [sq1,sq0]
 refine' tk 7 (.pointer (some ⟨w.heap.size,1,none⟩)) rfl rfl (.inl ⟨by rfl,fun u hu=>(by go_simp)⟩) hHeld ?_
 simp only [sq1,sq0]
 refine' tk 8 (.string nm) rfl rfl (.inl ⟨by rfl,fun u hu=>(by have hc:=(R0.out.then hu).cell HC1.out;go_simp)⟩) hHeld ?_
 simp only [sq1,sq0]
 refine' tk 11 (.pointer (some ⟨w.heap.size,15,none⟩)) rfl rfl (.inl ⟨by rfl,fun u hu=>(by go_simp)⟩) hHeld ?_
 simp only [sq1,sq0]
 refine' tk 12 (.slice (some ⟨b,o,none⟩) 3 ac) rfl rfl (.inl ⟨by rfl,fun u hu=>(by have hc:=(R0.out.then hu).cell HC15.out;go_simp)⟩) hHeld ?_
 simp only [sq1,sq0]
 refine' tk 13 (.pointer (some ⟨b,o+17,none⟩)) rfl rfl (.inl ⟨by rfl,fun u hu=>(by go_simp)⟩) hHeld ?_
 simp only [sq1,sq0]
 refine' tk 14 _ rfl rfl (yieldsIf_load_mid (by kernel_rfl) 34 _ rfl (b) (o+17) rfl a1 _ (fun u hu=>(HR1.out.below ((belowThen H0.out hu).mono hB) hb).range) Tryz.underlying34 rfl hl1.out) hHeld ?_
 simp only [sq1,sq0]
 refine' tk 18 (.pointer (some ⟨w.heap.size,15,none⟩)) rfl rfl (.inl ⟨by rfl,fun u hu=>(by go_simp)⟩) hHeld ?_
 simp only [sq1,sq0]
 refine' tk 19 (.slice (some ⟨b,o,none⟩) 3 ac) rfl rfl (.inl ⟨by rfl,fun u hu=>(by have hc:=(R0.out.then hu).cell HC15.out;go_simp)⟩) hHeld ?_
 simp only [sq1,sq0]
 refine' tk 20 (.pointer (some ⟨b,o+34,none⟩)) rfl rfl (.inl ⟨by rfl,fun u hu=>(by go_simp)⟩) hHeld ?_
 simp only [sq1,sq0]
 refine' tk 21 _ rfl rfl (yieldsIf_load_mid (by kernel_rfl) 34 _ rfl (b) (o+34) rfl a2 _ (fun u hu=>(HR2.out.below ((belowThen H0.out hu).mono hB) hb).range) Tryz.underlying34 rfl hl2.out) hHeld ?_
 simp only [sq1,sq0]
 refine rd1 4 rfl (fun K hK=>?_)
 go_simp
 refine (at_r f _ K0.out 10 _ B N a0 hN (HKA.out _ (belowThen H0.out hHeld)).1 (HKA.out _ (belowThen H0.out hHeld)).2.1 (HKA.out _ (belowThen H0.out hHeld)).2.2.1).mono ?_
 rw [HS0.out]
 rintro e uC1 ⟨rfl,hbC⟩
 refine hK.out _ _ (belowThen hHeld hbC) (fun hHeld1=>?_)
 clear hK K hbC hHeld
 have hHeld:=hHeld1
 clear hHeld1
 refine' tk 5 (.string (⟨#[114,101,100,117,99,101,32]⟩++s0)) rfl rfl (.inl ⟨by rfl,fun u hu=>(by go_simp;all_goals omega)⟩) hHeld ?_
 simp only [sq1,sq0]
 refine' tk 6 (.string ((⟨#[114,101,100,117,99,101,32]⟩++s0)++⟨#[32,97,115,32,36]⟩)) rfl rfl (.inl ⟨by rfl,fun u hu=>(by go_simp;all_goals omega)⟩) hHeld ?_
 simp only [sq1,sq0]
 refine' tk 9 (.string (((⟨#[114,101,100,117,99,101,32]⟩++s0)++⟨#[32,97,115,32,36]⟩)++nm)) rfl rfl (.inl ⟨by rfl,fun u hu=>(by go_simp;all_goals omega)⟩) hHeld ?_
 simp only [sq1,sq0]
 refine' tk 10 (.string ((((⟨#[114,101,100,117,99,101,32]⟩++s0)++⟨#[32,97,115,32,36]⟩)++nm)++⟨#[32,40]⟩)) rfl rfl (.inl ⟨by rfl,fun u hu=>(by go_simp;all_goals omega)⟩) hHeld ?_
 simp only [sq1,sq0]
 refine rd1 15 rfl (fun K hK=>?_)
 go_simp
 refine (K1.out.call _ B N a1 hN (HKA.out _ (belowThen H0.out hHeld)).1 (HKA.out _ (belowThen H0.out hHeld)).2.1 (HKA.out _ (belowThen H0.out hHeld)).2.2.2.1).mono ?_
 rw [HS1.out]
 rintro e uC2 ⟨rfl,hbC⟩
 refine hK.out _ _ (belowThen hHeld hbC) (fun hHeld2=>?_)
 clear hK K hbC hHeld
 have hHeld:=hHeld2
 clear hHeld2
 refine' tk 16 (.string (((((⟨#[114,101,100,117,99,101,32]⟩++s0)++⟨#[32,97,115,32,36]⟩)++nm)++⟨#[32,40]⟩)++s1)) rfl rfl (.inl ⟨by rfl,fun u hu=>(by go_simp;all_goals omega)⟩) hHeld ?_
 simp only [sq1,sq0]
 refine' tk 17 (.string ((((((⟨#[114,101,100,117,99,101,32]⟩++s0)++⟨#[32,97,115,32,36]⟩)++nm)++⟨#[32,40]⟩)++s1)++⟨#[59,32]⟩)) rfl rfl (.inl ⟨by rfl,fun u hu=>(by go_simp;all_goals omega)⟩) hHeld ?_
 simp only [sq1,sq0]
 refine rd1 22 rfl (fun K hK=>?_)
 go_simp
 refine (K2.out.call _ B N a2 hN (HKA.out _ (belowThen H0.out hHeld)).1 (HKA.out _ (belowThen H0.out hHeld)).2.1 (HKA.out _ (belowThen H0.out hHeld)).2.2.2.2.1).mono ?_
 rw [HS2.out]
 rintro e uC3 ⟨rfl,hbC⟩
 refine hK.out _ _ (belowThen hHeld hbC) (fun hHeld3=>?_)
 clear hK K hbC hHeld
 have hHeld:=hHeld3
 clear hHeld3
 refine' tk 23 (.string (((((((⟨#[114,101,100,117,99,101,32]⟩++s0)++⟨#[32,97,115,32,36]⟩)++nm)++⟨#[32,40]⟩)++s1)++⟨#[59,32]⟩)++s2)) rfl rfl (.inl ⟨by rfl,fun u hu=>(by go_simp;all_goals omega)⟩) hHeld ?_
 simp only [sq1,sq0]
 refine' tk 24 (.string ((((((((⟨#[114,101,100,117,99,101,32]⟩++s0)++⟨#[32,97,115,32,36]⟩)++nm)++⟨#[32,40]⟩)++s1)++⟨#[59,32]⟩)++s2)++⟨#[41]⟩)) rfl rfl (.inl ⟨by rfl,fun u hu=>(by go_simp;all_goals omega)⟩) hHeld ?_
 simp only [sq1,sq0]
 refine rd1 25 rfl (fun K hK=>?_)
 go_simp
 refine hK.out _ _ hHeld (fun hHeldx=>?_)
 clear hK K hHeldx
 refine wpAnyH_done (by kernel_rfl) ?_ _
 go_wp2_with fail
 go_ret
 exact ⟨by rw [HST.out,HR.out];rfl,belowThen H0.out hHeld⟩
set_option maxRecDepth 100000 in
set_option maxHeartbeats 6400000 in
theorem word_20 (f:ExprD→ByteArray) (x:ExprD) (ho:x.op=20) (hn:x.args.length=4) (k0:KidR f (x.args.getD 0 default)) (k1:KidR f (x.args.getD 1 default)) (k2:KidR f (x.args.getD 2 default)) (k3:AftR f (x.args.getD 3 default))
 (w:World) (B N:Nat) (cs:List Value) (hN:N≤1048576) (hB:B≤w.heap.size) (hE:Env w) (hx:ExprD.At w B N x cs):Calls Tryz.prog 71 #[.agg cs.toArray] w (StrB (stepT f x) w):=by
 have HX:=Hd hx
 have HE:=Hd hE
 have HO:=Hd ho
 have K0:=Hd k0
 have K1:=Hd k1
 have K2:=Hd k2
 have K3:=Hd k3
 have hl:=Hd (show (Tryz.prog.info? 34).map (·.size)=some cs.length by rw [hx.len];kernel_rfl)
 obtain ⟨aa,fa,ac,fc,vs,hh⟩:=hx.has
 have HC0:=Hd (show cs[0]?=some (.int .i64 20) by rw [← ho];exact hh.op)
 have hnm:=Hd (show x.name.size≤1048576 from Nat.le_trans hh.own.2.1 hN)
 obtain ⟨nm,hnm2⟩:∃ nm,x.name=nm:=⟨_,rfl⟩
 have HNE:=Hd hnm2
 have znm:nm.size≤1048576:=by rw [← hnm2];exact hnm.out
 have HC1:=Hd (show cs[1]?=some (.string nm) by rw [← hnm2];exact hh.name)
 obtain ⟨b,o,haa,hb,hget⟩:=args_at hh (n:=4) hn (by decide)
 have HC15:=Hd (show cs[15]?=some (.slice (some ⟨b,o,none⟩) 4 ac) by rw [hh.args,hn,haa])
 obtain ⟨a0,r0,q0⟩:=hget 0 (by decide)
 have HR0:=Hd (show CellsAt w b (o) a0 by simpa using r0)
 have HQ0:=Hd q0
 have hl0:=Hd (show (Tryz.prog.info? 34).map (·.size)=some a0.length by rw [q0.len];kernel_rfl)
 obtain ⟨a1,r1,q1⟩:=hget 1 (by decide)
 have HR1:=Hd (show CellsAt w b (o+17) a1 by simpa using r1)
 have HQ1:=Hd q1
 have hl1:=Hd (show (Tryz.prog.info? 34).map (·.size)=some a1.length by rw [q1.len];kernel_rfl)
 obtain ⟨a2,r2,q2⟩:=hget 2 (by decide)
 have HR2:=Hd (show CellsAt w b (o+34) a2 by simpa using r2)
 have HQ2:=Hd q2
 have hl2:=Hd (show (Tryz.prog.info? 34).map (·.size)=some a2.length by rw [q2.len];kernel_rfl)
 obtain ⟨a3,r3,q3⟩:=hget 3 (by decide)
 have HR3:=Hd (show CellsAt w b (o+51) a3 by simpa using r3)
 have HQ3:=Hd q3
 have hl3:=Hd (show (Tryz.prog.info? 34).map (·.size)=some a3.length by rw [q3.len];kernel_rfl)
 obtain ⟨w1,hw1⟩:∃ w1,w1=w.alloc (.cells cs.toArray 34):=⟨_,rfl⟩
 have HW:=Hd hw1
 have R0:=Hd (show RowT 34 w1 w.heap.size cs by rw [hw1];exact RowT.new w 34 cs)
 have H0:=Hd (show Below w.heap.size w w1 by rw [hw1];exact belowBox w _)
 have HKA:=Hd (show ∀ v,Below w.heap.size w v→B≤v.heap.size∧Env v∧ExprD.At v B N (x.args.getD 0 default) a0∧ExprD.At v B N (x.args.getD 1 default) a1∧ExprD.At v B N (x.args.getD 2 default) a2∧ExprD.At v B N (x.args.getD 3 default) a3∧ExprD.At v B N x cs from fun v hv=>⟨Nat.le_trans hB hv.size,HE.out.then hv,HQ0.out.below (hv.mono hB),HQ1.out.below (hv.mono hB),HQ2.out.below (hv.mono hB),HQ3.out.below (hv.mono hB),HX.out.below (hv.mono hB)⟩)
 have e0:=R0.out.cell HC0.out
 have e1:=R0.out.cell HC1.out
 have e15:=R0.out.cell HC15.out
 rw [hw1] at e0 e1 e15
 obtain ⟨s,hs⟩:∃ s,stepT f x=s:=⟨_,rfl⟩
 have HST:=Hd hs
 obtain ⟨s0,hs0⟩:∃ z,atS f 10 (x.args.getD 0 default)=z:=⟨_,rfl⟩
 have HS0:=Hd hs0
 have zs0:s0.size≤274877906960:=by rw [← hs0];exact Nat.le_trans (atS_le f _ _) (Nat.le_trans (Nat.add_le_add_right K0.out.size 2) (by decide))
 obtain ⟨s1,hs1⟩:∃ z,f (x.args.getD 1 default)=z:=⟨_,rfl⟩
 have HS1:=Hd hs1
 have zs1:s1.size≤274877906960:=by rw [← hs1];exact Nat.le_trans K1.out.size (by decide)
 obtain ⟨s2,hs2⟩:∃ z,f (x.args.getD 2 default)=z:=⟨_,rfl⟩
 have HS2:=Hd hs2
 have zs2:s2.size≤274877906960:=by rw [← hs2];exact Nat.le_trans K2.out.size (by decide)
 obtain ⟨s3,hs3⟩:∃ z,aftS f ⟨#[59,32]⟩ (x.args.getD 3 default)=z:=⟨_,rfl⟩
 have HS3:=Hd hs3
 have zs3:s3.size≤274877906960:=by rw [← hs3];exact aftS_le K3.out (by decide)
 have HR:=Hd (show s=⟨#[102,111,114,101,97,99,104,32]⟩++s0++⟨#[32,97,115,32,36]⟩++nm++⟨#[32,40]⟩++s1++⟨#[59,32]⟩++s2++s3++⟨#[41]⟩ by
  rw [← HST.out]
  unfold stepT
  rw [HO.out]
  simp only [if_true,if_false,Int.reduceEq]
  rw [hs0,hs1,hs2,hnm2,← hs3]
  rfl)
 clear hx hE hh ho hnm2 hw1 hs hn haa hget k0 k1 k2 k3 hs0 hs1 hs2 hs3
 go_enter Tryz.func71,Tryz.ntmps71
 go_wp2_with fail
 rw [← HW.out]
 refine wp_region_held_drew (S:=fun u=>Below w1.heap.size w1 u) (by kernel_rfl) (drewU w1) (fun hHeld=>?_)
 refine' tk 0 (.pointer (some ⟨w.heap.size,15,none⟩)) rfl rfl (.inl ⟨by rfl,fun u hu=>(by go_simp)⟩) hHeld ?_
 simp only [sq1,sq0]
 refine' tk 1 (.slice (some ⟨b,o,none⟩) 4 ac) rfl rfl (.inl ⟨by rfl,fun u hu=>(by have hc:=(R0.out.then hu).cell HC15.out;go_simp)⟩) hHeld ?_
 simp only [sq1,sq0]
 refine' tk 2 (.pointer (some ⟨b,o,none⟩)) rfl rfl (.inl ⟨by rfl,fun u hu=>(by go_simp)⟩) hHeld ?_
 simp only [sq1,sq0]
 refine' tk 3 _ rfl rfl (yieldsIf_load_mid (by kernel_rfl) 34 _ rfl (b) (o) rfl a0 _ (fun u hu=>(HR0.out.below ((belowThen H0.out hu).mono hB) hb).range) Tryz.underlying34 rfl hl0.out) hHeld ?_
 simp only [sq1,sq0]
 refine' tk 7 (.pointer (some ⟨w.heap.size,1,none⟩)) rfl rfl (.inl ⟨by rfl,fun u hu=>(by go_simp)⟩) hHeld ?_
 simp only [sq1,sq0]
 refine' tk 8 (.string nm) rfl rfl (.inl ⟨by rfl,fun u hu=>(by have hc:=(R0.out.then hu).cell HC1.out;go_simp)⟩) hHeld ?_
 simp only [sq1,sq0]
 refine' tk 11 (.pointer (some ⟨w.heap.size,15,none⟩)) rfl rfl (.inl ⟨by rfl,fun u hu=>(by go_simp)⟩) hHeld ?_
 simp only [sq1,sq0]
 refine' tk 12 (.slice (some ⟨b,o,none⟩) 4 ac) rfl rfl (.inl ⟨by rfl,fun u hu=>(by have hc:=(R0.out.then hu).cell HC15.out;go_simp)⟩) hHeld ?_
 simp only [sq1,sq0]
 refine' tk 13 (.pointer (some ⟨b,o+17,none⟩)) rfl rfl (.inl ⟨by rfl,fun u hu=>(by go_simp)⟩) hHeld ?_
 simp only [sq1,sq0]
 refine' tk 14 _ rfl rfl (yieldsIf_load_mid (by kernel_rfl) 34 _ rfl (b) (o+17) rfl a1 _ (fun u hu=>(HR1.out.below ((belowThen H0.out hu).mono hB) hb).range) Tryz.underlying34 rfl hl1.out) hHeld ?_
 simp only [sq1,sq0]
 refine' tk 18 (.pointer (some ⟨w.heap.size,15,none⟩)) rfl rfl (.inl ⟨by rfl,fun u hu=>(by go_simp)⟩) hHeld ?_
 simp only [sq1,sq0]
 refine' tk 19 (.slice (some ⟨b,o,none⟩) 4 ac) rfl rfl (.inl ⟨by rfl,fun u hu=>(by have hc:=(R0.out.then hu).cell HC15.out;go_simp)⟩) hHeld ?_
 simp only [sq1,sq0]
 refine' tk 20 (.pointer (some ⟨b,o+34,none⟩)) rfl rfl (.inl ⟨by rfl,fun u hu=>(by go_simp)⟩) hHeld ?_
 simp only [sq1,sq0]
 refine' tk 21 _ rfl rfl (yieldsIf_load_mid (by kernel_rfl) 34 _ rfl (b) (o+34) rfl a2 _ (fun u hu=>(HR2.out.below ((belowThen H0.out hu).mono hB) hb).range) Tryz.underlying34 rfl hl2.out) hHeld ?_
 simp only [sq1,sq0]
 refine' tk 24 (.pointer (some ⟨w.heap.size,15,none⟩)) rfl rfl (.inl ⟨by rfl,fun u hu=>(by go_simp)⟩) hHeld ?_
 simp only [sq1,sq0]
 refine' tk 25 (.slice (some ⟨b,o,none⟩) 4 ac) rfl rfl (.inl ⟨by rfl,fun u hu=>(by have hc:=(R0.out.then hu).cell HC15.out;go_simp)⟩) hHeld ?_
 simp only [sq1,sq0]
 refine' tk 26 (.pointer (some ⟨b,o+51,none⟩)) rfl rfl (.inl ⟨by rfl,fun u hu=>(by go_simp)⟩) hHeld ?_
 simp only [sq1,sq0]
 refine' tk 27 _ rfl rfl (yieldsIf_load_mid (by kernel_rfl) 34 _ rfl (b) (o+51) rfl a3 _ (fun u hu=>(HR3.out.below ((belowThen H0.out hu).mono hB) hb).range) Tryz.underlying34 rfl hl3.out) hHeld ?_
 simp only [sq1,sq0]
 refine rd1 4 rfl (fun K hK=>?_)
 go_simp
 refine (at_r f _ K0.out 10 _ B N a0 hN (HKA.out _ (belowThen H0.out hHeld)).1 (HKA.out _ (belowThen H0.out hHeld)).2.1 (HKA.out _ (belowThen H0.out hHeld)).2.2.1).mono ?_
 rw [HS0.out]
 rintro e uC1 ⟨rfl,hbC⟩
 refine hK.out _ _ (belowThen hHeld hbC) (fun hHeld1=>?_)
 clear hK K hbC hHeld
 have hHeld:=hHeld1
 clear hHeld1
 refine' tk 5 (.string (⟨#[102,111,114,101,97,99,104,32]⟩++s0)) rfl rfl (.inl ⟨by rfl,fun u hu=>(by go_simp;all_goals omega)⟩) hHeld ?_
 simp only [sq1,sq0]
 refine' tk 6 (.string ((⟨#[102,111,114,101,97,99,104,32]⟩++s0)++⟨#[32,97,115,32,36]⟩)) rfl rfl (.inl ⟨by rfl,fun u hu=>(by go_simp;all_goals omega)⟩) hHeld ?_
 simp only [sq1,sq0]
 refine' tk 9 (.string (((⟨#[102,111,114,101,97,99,104,32]⟩++s0)++⟨#[32,97,115,32,36]⟩)++nm)) rfl rfl (.inl ⟨by rfl,fun u hu=>(by go_simp;all_goals omega)⟩) hHeld ?_
 simp only [sq1,sq0]
 refine' tk 10 (.string ((((⟨#[102,111,114,101,97,99,104,32]⟩++s0)++⟨#[32,97,115,32,36]⟩)++nm)++⟨#[32,40]⟩)) rfl rfl (.inl ⟨by rfl,fun u hu=>(by go_simp;all_goals omega)⟩) hHeld ?_
 simp only [sq1,sq0]
 refine rd1 15 rfl (fun K hK=>?_)
 go_simp
 refine (K1.out.call _ B N a1 hN (HKA.out _ (belowThen H0.out hHeld)).1 (HKA.out _ (belowThen H0.out hHeld)).2.1 (HKA.out _ (belowThen H0.out hHeld)).2.2.2.1).mono ?_
 rw [HS1.out]
 rintro e uC2 ⟨rfl,hbC⟩
 refine hK.out _ _ (belowThen hHeld hbC) (fun hHeld2=>?_)
 clear hK K hbC hHeld
 have hHeld:=hHeld2
 clear hHeld2
 refine' tk 16 (.string (((((⟨#[102,111,114,101,97,99,104,32]⟩++s0)++⟨#[32,97,115,32,36]⟩)++nm)++⟨#[32,40]⟩)++s1)) rfl rfl (.inl ⟨by rfl,fun u hu=>(by go_simp;all_goals omega)⟩) hHeld ?_
 simp only [sq1,sq0]
 refine' tk 17 (.string ((((((⟨#[102,111,114,101,97,99,104,32]⟩++s0)++⟨#[32,97,115,32,36]⟩)++nm)++⟨#[32,40]⟩)++s1)++⟨#[59,32]⟩)) rfl rfl (.inl ⟨by rfl,fun u hu=>(by go_simp;all_goals omega)⟩) hHeld ?_
 simp only [sq1,sq0]
 refine rd1 22 rfl (fun K hK=>?_)
 go_simp
 refine (K2.out.call _ B N a2 hN (HKA.out _ (belowThen H0.out hHeld)).1 (HKA.out _ (belowThen H0.out hHeld)).2.1 (HKA.out _ (belowThen H0.out hHeld)).2.2.2.2.1).mono ?_
 rw [HS2.out]
 rintro e uC3 ⟨rfl,hbC⟩
 refine hK.out _ _ (belowThen hHeld hbC) (fun hHeld3=>?_)
 clear hK K hbC hHeld
 have hHeld:=hHeld3
 clear hHeld3
 refine' tk 23 (.string (((((((⟨#[102,111,114,101,97,99,104,32]⟩++s0)++⟨#[32,97,115,32,36]⟩)++nm)++⟨#[32,40]⟩)++s1)++⟨#[59,32]⟩)++s2)) rfl rfl (.inl ⟨by rfl,fun u hu=>(by go_simp;all_goals omega)⟩) hHeld ?_
 simp only [sq1,sq0]
 refine rd1 28 rfl (fun K hK=>?_)
 go_simp
 refine (after_r f ⟨#[59,32]⟩ (by decide) _ K3.out _ B N a3 hN (HKA.out _ (belowThen H0.out hHeld)).1 (HKA.out _ (belowThen H0.out hHeld)).2.1 (HKA.out _ (belowThen H0.out hHeld)).2.2.2.2.2.1).mono ?_
 rw [HS3.out]
 rintro e uC4 ⟨rfl,hbC⟩
 refine hK.out _ _ (belowThen hHeld hbC) (fun hHeld4=>?_)
 clear hK K hbC hHeld
 have hHeld:=hHeld4
 clear hHeld4
 refine' tk 29 (.string ((((((((⟨#[102,111,114,101,97,99,104,32]⟩++s0)++⟨#[32,97,115,32,36]⟩)++nm)++⟨#[32,40]⟩)++s1)++⟨#[59,32]⟩)++s2)++s3)) rfl rfl (.inl ⟨by rfl,fun u hu=>(by go_simp;all_goals omega)⟩) hHeld ?_
 simp only [sq1,sq0]
 refine' tk 30 (.string (((((((((⟨#[102,111,114,101,97,99,104,32]⟩++s0)++⟨#[32,97,115,32,36]⟩)++nm)++⟨#[32,40]⟩)++s1)++⟨#[59,32]⟩)++s2)++s3)++⟨#[41]⟩)) rfl rfl (.inl ⟨by rfl,fun u hu=>(by go_simp;all_goals omega)⟩) hHeld ?_
 simp only [sq1,sq0]
 refine rd1 31 rfl (fun K hK=>?_)
 go_simp
 refine hK.out _ _ hHeld (fun hHeldx=>?_)
 clear hK K hHeldx
 refine wpAnyH_done (by kernel_rfl) ?_ _
 go_wp2_with fail
 go_ret
 exact ⟨by rw [HST.out,HR.out];rfl,belowThen H0.out hHeld⟩
set_option maxRecDepth 100000 in
set_option maxHeartbeats 6400000 in
theorem word_22 (f:ExprD→ByteArray) (x:ExprD) (ho:x.op=22) (hn:x.args.length=2) (k0:KidR f (x.args.getD 0 default)) (k1:KidR f (x.args.getD 1 default))
 (w:World) (B N:Nat) (cs:List Value) (hN:N≤1048576) (hB:B≤w.heap.size) (hE:Env w) (hx:ExprD.At w B N x cs):Calls Tryz.prog 71 #[.agg cs.toArray] w (StrB (stepT f x) w):=by
 have HX:=Hd hx
 have HE:=Hd hE
 have HO:=Hd ho
 have K0:=Hd k0
 have K1:=Hd k1
 have hl:=Hd (show (Tryz.prog.info? 34).map (·.size)=some cs.length by rw [hx.len];kernel_rfl)
 obtain ⟨aa,fa,ac,fc,vs,hh⟩:=hx.has
 have HC0:=Hd (show cs[0]?=some (.int .i64 22) by rw [← ho];exact hh.op)
 have hnm:=Hd (show x.name.size≤1048576 from Nat.le_trans hh.own.2.1 hN)
 obtain ⟨nm,hnm2⟩:∃ nm,x.name=nm:=⟨_,rfl⟩
 have HNE:=Hd hnm2
 have znm:nm.size≤1048576:=by rw [← hnm2];exact hnm.out
 have HC1:=Hd (show cs[1]?=some (.string nm) by rw [← hnm2];exact hh.name)
 obtain ⟨b,o,haa,hb,hget⟩:=args_at hh (n:=2) hn (by decide)
 have HC15:=Hd (show cs[15]?=some (.slice (some ⟨b,o,none⟩) 2 ac) by rw [hh.args,hn,haa])
 obtain ⟨a0,r0,q0⟩:=hget 0 (by decide)
 have HR0:=Hd (show CellsAt w b (o) a0 by simpa using r0)
 have HQ0:=Hd q0
 have hl0:=Hd (show (Tryz.prog.info? 34).map (·.size)=some a0.length by rw [q0.len];kernel_rfl)
 obtain ⟨a1,r1,q1⟩:=hget 1 (by decide)
 have HR1:=Hd (show CellsAt w b (o+17) a1 by simpa using r1)
 have HQ1:=Hd q1
 have hl1:=Hd (show (Tryz.prog.info? 34).map (·.size)=some a1.length by rw [q1.len];kernel_rfl)
 obtain ⟨w1,hw1⟩:∃ w1,w1=w.alloc (.cells cs.toArray 34):=⟨_,rfl⟩
 have HW:=Hd hw1
 have R0:=Hd (show RowT 34 w1 w.heap.size cs by rw [hw1];exact RowT.new w 34 cs)
 have H0:=Hd (show Below w.heap.size w w1 by rw [hw1];exact belowBox w _)
 have HKA:=Hd (show ∀ v,Below w.heap.size w v→B≤v.heap.size∧Env v∧ExprD.At v B N (x.args.getD 0 default) a0∧ExprD.At v B N (x.args.getD 1 default) a1∧ExprD.At v B N x cs from fun v hv=>⟨Nat.le_trans hB hv.size,HE.out.then hv,HQ0.out.below (hv.mono hB),HQ1.out.below (hv.mono hB),HX.out.below (hv.mono hB)⟩)
 have e0:=R0.out.cell HC0.out
 have e1:=R0.out.cell HC1.out
 have e15:=R0.out.cell HC15.out
 rw [hw1] at e0 e1 e15
 obtain ⟨s,hs⟩:∃ s,stepT f x=s:=⟨_,rfl⟩
 have HST:=Hd hs
 obtain ⟨s0,hs0⟩:∃ z,atS f 10 (x.args.getD 0 default)=z:=⟨_,rfl⟩
 have HS0:=Hd hs0
 have zs0:s0.size≤274877906960:=by rw [← hs0];exact Nat.le_trans (atS_le f _ _) (Nat.le_trans (Nat.add_le_add_right K0.out.size 2) (by decide))
 obtain ⟨s1,hs1⟩:∃ z,f (x.args.getD 1 default)=z:=⟨_,rfl⟩
 have HS1:=Hd hs1
 have zs1:s1.size≤274877906960:=by rw [← hs1];exact Nat.le_trans K1.out.size (by decide)
 have HR:=Hd (show s=s0++⟨#[32,97,115,32,36]⟩++nm++⟨#[32,124,32]⟩++s1 by
  rw [← HST.out]
  unfold stepT
  rw [HO.out]
  simp only [if_true,if_false,Int.reduceEq]
  rw [hs0,hs1,hnm2])
 clear hx hE hh ho hnm2 hw1 hs hn haa hget k0 k1 hs0 hs1
 go_enter Tryz.func71,Tryz.ntmps71
 go_wp2_with fail
 rw [← HW.out]
 refine wp_region_held_drew (S:=fun u=>Below w1.heap.size w1 u) (by kernel_rfl) (drewU w1) (fun hHeld=>?_)
 refine' tk 0 (.pointer (some ⟨w.heap.size,15,none⟩)) rfl rfl (.inl ⟨by rfl,fun u hu=>(by go_simp)⟩) hHeld ?_
 simp only [sq1,sq0]
 refine' tk 1 (.slice (some ⟨b,o,none⟩) 2 ac) rfl rfl (.inl ⟨by rfl,fun u hu=>(by have hc:=(R0.out.then hu).cell HC15.out;go_simp)⟩) hHeld ?_
 simp only [sq1,sq0]
 refine' tk 2 (.pointer (some ⟨b,o,none⟩)) rfl rfl (.inl ⟨by rfl,fun u hu=>(by go_simp)⟩) hHeld ?_
 simp only [sq1,sq0]
 refine' tk 3 _ rfl rfl (yieldsIf_load_mid (by kernel_rfl) 34 _ rfl (b) (o) rfl a0 _ (fun u hu=>(HR0.out.below ((belowThen H0.out hu).mono hB) hb).range) Tryz.underlying34 rfl hl0.out) hHeld ?_
 simp only [sq1,sq0]
 refine' tk 6 (.pointer (some ⟨w.heap.size,1,none⟩)) rfl rfl (.inl ⟨by rfl,fun u hu=>(by go_simp)⟩) hHeld ?_
 simp only [sq1,sq0]
 refine' tk 7 (.string nm) rfl rfl (.inl ⟨by rfl,fun u hu=>(by have hc:=(R0.out.then hu).cell HC1.out;go_simp)⟩) hHeld ?_
 simp only [sq1,sq0]
 refine' tk 10 (.pointer (some ⟨w.heap.size,15,none⟩)) rfl rfl (.inl ⟨by rfl,fun u hu=>(by go_simp)⟩) hHeld ?_
 simp only [sq1,sq0]
 refine' tk 11 (.slice (some ⟨b,o,none⟩) 2 ac) rfl rfl (.inl ⟨by rfl,fun u hu=>(by have hc:=(R0.out.then hu).cell HC15.out;go_simp)⟩) hHeld ?_
 simp only [sq1,sq0]
 refine' tk 12 (.pointer (some ⟨b,o+17,none⟩)) rfl rfl (.inl ⟨by rfl,fun u hu=>(by go_simp)⟩) hHeld ?_
 simp only [sq1,sq0]
 refine' tk 13 _ rfl rfl (yieldsIf_load_mid (by kernel_rfl) 34 _ rfl (b) (o+17) rfl a1 _ (fun u hu=>(HR1.out.below ((belowThen H0.out hu).mono hB) hb).range) Tryz.underlying34 rfl hl1.out) hHeld ?_
 simp only [sq1,sq0]
 refine rd1 4 rfl (fun K hK=>?_)
 go_simp
 refine (at_r f _ K0.out 10 _ B N a0 hN (HKA.out _ (belowThen H0.out hHeld)).1 (HKA.out _ (belowThen H0.out hHeld)).2.1 (HKA.out _ (belowThen H0.out hHeld)).2.2.1).mono ?_
 rw [HS0.out]
 rintro e uC1 ⟨rfl,hbC⟩
 refine hK.out _ _ (belowThen hHeld hbC) (fun hHeld1=>?_)
 clear hK K hbC hHeld
 have hHeld:=hHeld1
 clear hHeld1
 refine' tk 5 (.string (s0++⟨#[32,97,115,32,36]⟩)) rfl rfl (.inl ⟨by rfl,fun u hu=>(by go_simp;all_goals omega)⟩) hHeld ?_
 simp only [sq1,sq0]
 refine' tk 8 (.string ((s0++⟨#[32,97,115,32,36]⟩)++nm)) rfl rfl (.inl ⟨by rfl,fun u hu=>(by go_simp;all_goals omega)⟩) hHeld ?_
 simp only [sq1,sq0]
 refine' tk 9 (.string (((s0++⟨#[32,97,115,32,36]⟩)++nm)++⟨#[32,124,32]⟩)) rfl rfl (.inl ⟨by rfl,fun u hu=>(by go_simp;all_goals omega)⟩) hHeld ?_
 simp only [sq1,sq0]
 refine rd1 14 rfl (fun K hK=>?_)
 go_simp
 refine (K1.out.call _ B N a1 hN (HKA.out _ (belowThen H0.out hHeld)).1 (HKA.out _ (belowThen H0.out hHeld)).2.1 (HKA.out _ (belowThen H0.out hHeld)).2.2.2.1).mono ?_
 rw [HS1.out]
 rintro e uC2 ⟨rfl,hbC⟩
 refine hK.out _ _ (belowThen hHeld hbC) (fun hHeld2=>?_)
 clear hK K hbC hHeld
 have hHeld:=hHeld2
 clear hHeld2
 refine' tk 15 (.string ((((s0++⟨#[32,97,115,32,36]⟩)++nm)++⟨#[32,124,32]⟩)++s1)) rfl rfl (.inl ⟨by rfl,fun u hu=>(by go_simp;all_goals omega)⟩) hHeld ?_
 simp only [sq1,sq0]
 refine rd1 16 rfl (fun K hK=>?_)
 go_simp
 refine hK.out _ _ hHeld (fun hHeldx=>?_)
 clear hK K hHeldx
 refine wpAnyH_done (by kernel_rfl) ?_ _
 go_wp2_with fail
 go_ret
 exact ⟨by rw [HST.out,HR.out];rfl,belowThen H0.out hHeld⟩
set_option maxRecDepth 100000 in
set_option maxHeartbeats 6400000 in
theorem word_26 (f:ExprD→ByteArray) (x:ExprD) (ho:x.op=26) (hn:x.args.length=1) (k0:KidR f (x.args.getD 0 default))
 (w:World) (B N:Nat) (cs:List Value) (hN:N≤1048576) (hB:B≤w.heap.size) (hE:Env w) (hx:ExprD.At w B N x cs):Calls Tryz.prog 71 #[.agg cs.toArray] w (StrB (stepT f x) w):=by
 have HX:=Hd hx
 have HE:=Hd hE
 have HO:=Hd ho
 have K0:=Hd k0
 have hl:=Hd (show (Tryz.prog.info? 34).map (·.size)=some cs.length by rw [hx.len];kernel_rfl)
 obtain ⟨aa,fa,ac,fc,vs,hh⟩:=hx.has
 have HC0:=Hd (show cs[0]?=some (.int .i64 26) by rw [← ho];exact hh.op)
 have hnm:=Hd (show x.name.size≤1048576 from Nat.le_trans hh.own.2.1 hN)
 obtain ⟨nm,hnm2⟩:∃ nm,x.name=nm:=⟨_,rfl⟩
 have HNE:=Hd hnm2
 have znm:nm.size≤1048576:=by rw [← hnm2];exact hnm.out
 have HC1:=Hd (show cs[1]?=some (.string nm) by rw [← hnm2];exact hh.name)
 obtain ⟨b,o,haa,hb,hget⟩:=args_at hh (n:=1) hn (by decide)
 have HC15:=Hd (show cs[15]?=some (.slice (some ⟨b,o,none⟩) 1 ac) by rw [hh.args,hn,haa])
 obtain ⟨a0,r0,q0⟩:=hget 0 (by decide)
 have HR0:=Hd (show CellsAt w b (o) a0 by simpa using r0)
 have HQ0:=Hd q0
 have hl0:=Hd (show (Tryz.prog.info? 34).map (·.size)=some a0.length by rw [q0.len];kernel_rfl)
 obtain ⟨w1,hw1⟩:∃ w1,w1=w.alloc (.cells cs.toArray 34):=⟨_,rfl⟩
 have HW:=Hd hw1
 have R0:=Hd (show RowT 34 w1 w.heap.size cs by rw [hw1];exact RowT.new w 34 cs)
 have H0:=Hd (show Below w.heap.size w w1 by rw [hw1];exact belowBox w _)
 have HKA:=Hd (show ∀ v,Below w.heap.size w v→B≤v.heap.size∧Env v∧ExprD.At v B N (x.args.getD 0 default) a0∧ExprD.At v B N x cs from fun v hv=>⟨Nat.le_trans hB hv.size,HE.out.then hv,HQ0.out.below (hv.mono hB),HX.out.below (hv.mono hB)⟩)
 have e0:=R0.out.cell HC0.out
 have e1:=R0.out.cell HC1.out
 have e15:=R0.out.cell HC15.out
 rw [hw1] at e0 e1 e15
 obtain ⟨s,hs⟩:∃ s,stepT f x=s:=⟨_,rfl⟩
 have HST:=Hd hs
 obtain ⟨s0,hs0⟩:∃ z,f (x.args.getD 0 default)=z:=⟨_,rfl⟩
 have HS0:=Hd hs0
 have zs0:s0.size≤274877906960:=by rw [← hs0];exact Nat.le_trans K0.out.size (by decide)
 have HR:=Hd (show s=⟨#[108,97,98,101,108,32,36]⟩++nm++⟨#[32,124,32]⟩++s0 by
  rw [← HST.out]
  unfold stepT
  rw [HO.out]
  simp only [if_true,if_false,Int.reduceEq]
  rw [hs0,hnm2])
 clear hx hE hh ho hnm2 hw1 hs hn haa hget k0 hs0
 go_enter Tryz.func71,Tryz.ntmps71
 go_wp2_with fail
 rw [← HW.out]
 refine wp_region_held_drew (S:=fun u=>Below w1.heap.size w1 u) (by kernel_rfl) (drewU w1) (fun hHeld=>?_)
 refine' tk 0 (.pointer (some ⟨w.heap.size,1,none⟩)) rfl rfl (.inl ⟨by rfl,fun u hu=>(by go_simp)⟩) hHeld ?_
 simp only [sq1,sq0]
 refine' tk 1 (.string nm) rfl rfl (.inl ⟨by rfl,fun u hu=>(by have hc:=(R0.out.then hu).cell HC1.out;go_simp)⟩) hHeld ?_
 simp only [sq1,sq0]
 refine' tk 2 (.string (⟨#[108,97,98,101,108,32,36]⟩++nm)) rfl rfl (.inl ⟨by rfl,fun u hu=>(by go_simp;all_goals omega)⟩) hHeld ?_
 simp only [sq1,sq0]
 refine' tk 3 (.string ((⟨#[108,97,98,101,108,32,36]⟩++nm)++⟨#[32,124,32]⟩)) rfl rfl (.inl ⟨by rfl,fun u hu=>(by go_simp;all_goals omega)⟩) hHeld ?_
 simp only [sq1,sq0]
 refine' tk 4 (.pointer (some ⟨w.heap.size,15,none⟩)) rfl rfl (.inl ⟨by rfl,fun u hu=>(by go_simp)⟩) hHeld ?_
 simp only [sq1,sq0]
 refine' tk 5 (.slice (some ⟨b,o,none⟩) 1 ac) rfl rfl (.inl ⟨by rfl,fun u hu=>(by have hc:=(R0.out.then hu).cell HC15.out;go_simp)⟩) hHeld ?_
 simp only [sq1,sq0]
 refine' tk 6 (.pointer (some ⟨b,o,none⟩)) rfl rfl (.inl ⟨by rfl,fun u hu=>(by go_simp)⟩) hHeld ?_
 simp only [sq1,sq0]
 refine' tk 7 _ rfl rfl (yieldsIf_load_mid (by kernel_rfl) 34 _ rfl (b) (o) rfl a0 _ (fun u hu=>(HR0.out.below ((belowThen H0.out hu).mono hB) hb).range) Tryz.underlying34 rfl hl0.out) hHeld ?_
 simp only [sq1,sq0]
 refine rd1 8 rfl (fun K hK=>?_)
 go_simp
 refine (K0.out.call _ B N a0 hN (HKA.out _ (belowThen H0.out hHeld)).1 (HKA.out _ (belowThen H0.out hHeld)).2.1 (HKA.out _ (belowThen H0.out hHeld)).2.2.1).mono ?_
 rw [HS0.out]
 rintro e uC1 ⟨rfl,hbC⟩
 refine hK.out _ _ (belowThen hHeld hbC) (fun hHeld1=>?_)
 clear hK K hbC hHeld
 have hHeld:=hHeld1
 clear hHeld1
 refine' tk 9 (.string (((⟨#[108,97,98,101,108,32,36]⟩++nm)++⟨#[32,124,32]⟩)++s0)) rfl rfl (.inl ⟨by rfl,fun u hu=>(by go_simp;all_goals omega)⟩) hHeld ?_
 simp only [sq1,sq0]
 refine rd1 10 rfl (fun K hK=>?_)
 go_simp
 refine hK.out _ _ hHeld (fun hHeldx=>?_)
 clear hK K hHeldx
 refine wpAnyH_done (by kernel_rfl) ?_ _
 go_wp2_with fail
 go_ret
 exact ⟨by rw [HST.out,HR.out];rfl,belowThen H0.out hHeld⟩
set_option maxRecDepth 100000 in
set_option maxHeartbeats 6400000 in
theorem word_17_n (f:ExprD→ByteArray) (x:ExprD) (ho:x.op=17) (hn:x.args.length=2) (k0:KidR f (x.args.getD 0 default)) (hi:(x.args.getD 1 default).op=30) (hab:absB (x.args.getD 1 default)=true)
 (w:World) (B N:Nat) (cs:List Value) (hN:N≤1048576) (hB:B≤w.heap.size) (hE:Env w) (hx:ExprD.At w B N x cs):Calls Tryz.prog 71 #[.agg cs.toArray] w (StrB (stepT f x) w):=by
 have HX:=Hd hx
 have HE:=Hd hE
 have HO:=Hd ho
 have K0:=Hd k0
 have HAB:=Hd hab
 have hl:=Hd (show (Tryz.prog.info? 34).map (·.size)=some cs.length by rw [hx.len];kernel_rfl)
 obtain ⟨aa,fa,ac,fc,vs,hh⟩:=hx.has
 have HC0:=Hd (show cs[0]?=some (.int .i64 17) by rw [← ho];exact hh.op)
 have hnm:=Hd (show x.name.size≤1048576 from Nat.le_trans hh.own.2.1 hN)
 obtain ⟨nm,hnm2⟩:∃ nm,x.name=nm:=⟨_,rfl⟩
 have HNE:=Hd hnm2
 have znm:nm.size≤1048576:=by rw [← hnm2];exact hnm.out
 have HC1:=Hd (show cs[1]?=some (.string nm) by rw [← hnm2];exact hh.name)
 obtain ⟨b,o,haa,hb,hget⟩:=args_at hh (n:=2) hn (by decide)
 have HC15:=Hd (show cs[15]?=some (.slice (some ⟨b,o,none⟩) 2 ac) by rw [hh.args,hn,haa])
 obtain ⟨a0,r0,q0⟩:=hget 0 (by decide)
 have HR0:=Hd (show CellsAt w b (o) a0 by simpa using r0)
 have HQ0:=Hd q0
 have hl0:=Hd (show (Tryz.prog.info? 34).map (·.size)=some a0.length by rw [q0.len];kernel_rfl)
 obtain ⟨a1,r1,q1⟩:=hget 1 (by decide)
 have HR1:=Hd (show CellsAt w b (o+17) a1 by simpa using r1)
 have HQ1:=Hd q1
 have hl1:=Hd (show (Tryz.prog.info? 34).map (·.size)=some a1.length by rw [q1.len];kernel_rfl)
 obtain ⟨w1,hw1⟩:∃ w1,w1=w.alloc (.cells cs.toArray 34):=⟨_,rfl⟩
 have HW:=Hd hw1
 have R0:=Hd (show RowT 34 w1 w.heap.size cs by rw [hw1];exact RowT.new w 34 cs)
 have H0:=Hd (show Below w.heap.size w w1 by rw [hw1];exact belowBox w _)
 have HKA:=Hd (show ∀ v,Below w.heap.size w v→B≤v.heap.size∧Env v∧ExprD.At v B N (x.args.getD 0 default) a0∧ExprD.At v B N (x.args.getD 1 default) a1∧ExprD.At v B N x cs from fun v hv=>⟨Nat.le_trans hB hv.size,HE.out.then hv,HQ0.out.below (hv.mono hB),HQ1.out.below (hv.mono hB),HX.out.below (hv.mono hB)⟩)
 have e0:=R0.out.cell HC0.out
 have e1:=R0.out.cell HC1.out
 have e15:=R0.out.cell HC15.out
 rw [hw1] at e0 e1 e15
 obtain ⟨s,hs⟩:∃ s,stepT f x=s:=⟨_,rfl⟩
 have HST:=Hd hs
 obtain ⟨s0,hs0⟩:∃ z,atS f 10 (x.args.getD 0 default)=z:=⟨_,rfl⟩
 have HS0:=Hd hs0
 have zs0:s0.size≤274877906960:=by rw [← hs0];exact Nat.le_trans (atS_le f _ _) (Nat.le_trans (Nat.add_le_add_right K0.out.size 2) (by decide))
 have HR:=Hd (show s=s0++⟨#[63]⟩ by
  rw [← HST.out]
  unfold stepT
  rw [HO.out]
  simp only [if_true,if_false,Int.reduceEq]
  rw [hs0,if_pos hi])
 clear hx hE hh ho hnm2 hw1 hs hn haa hget k0 hs0 hi hab
 go_enter Tryz.func71,Tryz.ntmps71
 go_wp2_with ((with_reducible show wpList _ _ _ (⟨some 129,_,_,_,_,_⟩::_) _ _);refine wpList_load_mid rfl 34 _ rfl b (o+17) rfl a1 _ (by rw [← HW.out];exact (HR1.out.below (H0.out.mono hB) hb).range) Tryz.underlying34 rfl hl1.out ?_)
 rw [← HW.out]
 refine (absent_r _ _ B N a1 (HKA.out _ H0.out).1 (HKA.out _ H0.out).2.2.2.1).mono ?_
 rw [HAB.out]
 rintro e wu ⟨rfl,hb1⟩
 have HU:=Hd (belowThen H0.out hb1)
 have RU:=Hd (R0.out.then hb1)
 clear hb1 e0 e1 e15
 have e0:=RU.out.cell HC0.out
 have e1:=RU.out.cell HC1.out
 have e15:=RU.out.cell HC15.out
 go_wp2_with ((with_reducible show wpList _ _ _ (⟨some 134,_,_,_,_,_⟩::_) _ _);refine wpList_load_mid rfl 34 _ rfl b (o) rfl a0 _ (HR0.out.below (HU.out.mono hB) hb).range Tryz.underlying34 rfl hl0.out ?_)
 refine (at_r f _ K0.out 10 _ B N a0 hN (HKA.out _ HU.out).1 (HKA.out _ HU.out).2.1 (HKA.out _ HU.out).2.2.1).mono ?_
 rw [HS0.out]
 rintro e wv ⟨rfl,hb1⟩
 have Hwv:=Hd (belowThen HU.out hb1)
 clear hb1
 have sc1:(s0:ByteArray).size+(⟨#[63]⟩:ByteArray).size≤9223372036854775807:=by simp only [szl,List.size_toArray,List.length_cons,List.length_nil];omega
 go_wp2_with fail
 go_ret
 exact ⟨by rw [HST.out,HR.out];rfl,Hwv.out⟩
set_option maxRecDepth 100000 in
set_option maxHeartbeats 6400000 in
theorem word_17_c (f:ExprD→ByteArray) (x:ExprD) (ho:x.op=17) (hn:x.args.length=2) (k0:KidR f (x.args.getD 0 default)) (k1:KidR f (x.args.getD 1 default)) (hi:(x.args.getD 1 default).op≠30)
 (w:World) (B N:Nat) (cs:List Value) (hN:N≤1048576) (hB:B≤w.heap.size) (hE:Env w) (hx:ExprD.At w B N x cs):Calls Tryz.prog 71 #[.agg cs.toArray] w (StrB (stepT f x) w):=by
 have HX:=Hd hx
 have HE:=Hd hE
 have HO:=Hd ho
 have K0:=Hd k0
 have K1:=Hd k1
 have HAB:=Hd (absB_ne hi)
 have hl:=Hd (show (Tryz.prog.info? 34).map (·.size)=some cs.length by rw [hx.len];kernel_rfl)
 obtain ⟨aa,fa,ac,fc,vs,hh⟩:=hx.has
 have HC0:=Hd (show cs[0]?=some (.int .i64 17) by rw [← ho];exact hh.op)
 have hnm:=Hd (show x.name.size≤1048576 from Nat.le_trans hh.own.2.1 hN)
 obtain ⟨nm,hnm2⟩:∃ nm,x.name=nm:=⟨_,rfl⟩
 have HNE:=Hd hnm2
 have znm:nm.size≤1048576:=by rw [← hnm2];exact hnm.out
 have HC1:=Hd (show cs[1]?=some (.string nm) by rw [← hnm2];exact hh.name)
 obtain ⟨b,o,haa,hb,hget⟩:=args_at hh (n:=2) hn (by decide)
 have HC15:=Hd (show cs[15]?=some (.slice (some ⟨b,o,none⟩) 2 ac) by rw [hh.args,hn,haa])
 obtain ⟨a0,r0,q0⟩:=hget 0 (by decide)
 have HR0:=Hd (show CellsAt w b (o) a0 by simpa using r0)
 have HQ0:=Hd q0
 have hl0:=Hd (show (Tryz.prog.info? 34).map (·.size)=some a0.length by rw [q0.len];kernel_rfl)
 obtain ⟨a1,r1,q1⟩:=hget 1 (by decide)
 have HR1:=Hd (show CellsAt w b (o+17) a1 by simpa using r1)
 have HQ1:=Hd q1
 have hl1:=Hd (show (Tryz.prog.info? 34).map (·.size)=some a1.length by rw [q1.len];kernel_rfl)
 obtain ⟨w1,hw1⟩:∃ w1,w1=w.alloc (.cells cs.toArray 34):=⟨_,rfl⟩
 have HW:=Hd hw1
 have R0:=Hd (show RowT 34 w1 w.heap.size cs by rw [hw1];exact RowT.new w 34 cs)
 have H0:=Hd (show Below w.heap.size w w1 by rw [hw1];exact belowBox w _)
 have HKA:=Hd (show ∀ v,Below w.heap.size w v→B≤v.heap.size∧Env v∧ExprD.At v B N (x.args.getD 0 default) a0∧ExprD.At v B N (x.args.getD 1 default) a1∧ExprD.At v B N x cs from fun v hv=>⟨Nat.le_trans hB hv.size,HE.out.then hv,HQ0.out.below (hv.mono hB),HQ1.out.below (hv.mono hB),HX.out.below (hv.mono hB)⟩)
 have e0:=R0.out.cell HC0.out
 have e1:=R0.out.cell HC1.out
 have e15:=R0.out.cell HC15.out
 rw [hw1] at e0 e1 e15
 obtain ⟨s,hs⟩:∃ s,stepT f x=s:=⟨_,rfl⟩
 have HST:=Hd hs
 obtain ⟨s0,hs0⟩:∃ z,atS f 10 (x.args.getD 0 default)=z:=⟨_,rfl⟩
 have HS0:=Hd hs0
 have zs0:s0.size≤274877906960:=by rw [← hs0];exact Nat.le_trans (atS_le f _ _) (Nat.le_trans (Nat.add_le_add_right K0.out.size 2) (by decide))
 obtain ⟨s1,hs1⟩:∃ z,atS f 10 (x.args.getD 1 default)=z:=⟨_,rfl⟩
 have HS1:=Hd hs1
 have zs1:s1.size≤274877906960:=by rw [← hs1];exact Nat.le_trans (atS_le f _ _) (Nat.le_trans (Nat.add_le_add_right K1.out.size 2) (by decide))
 have HR:=Hd (show s=⟨#[116,114,121,32]⟩++s0++⟨#[32,99,97,116,99,104,32]⟩++s1 by
  rw [← HST.out]
  unfold stepT
  rw [HO.out]
  simp only [if_true,if_false,Int.reduceEq]
  rw [hs0,hs1,if_neg hi])
 clear hx hE hh ho hnm2 hw1 hs hn haa hget k0 hs0 hi k1 hs1
 go_enter Tryz.func71,Tryz.ntmps71
 go_wp2_with ((with_reducible show wpList _ _ _ (⟨some 129,_,_,_,_,_⟩::_) _ _);refine wpList_load_mid rfl 34 _ rfl b (o+17) rfl a1 _ (by rw [← HW.out];exact (HR1.out.below (H0.out.mono hB) hb).range) Tryz.underlying34 rfl hl1.out ?_)
 rw [← HW.out]
 refine (absent_r _ _ B N a1 (HKA.out _ H0.out).1 (HKA.out _ H0.out).2.2.2.1).mono ?_
 rw [HAB.out]
 rintro e wu ⟨rfl,hb1⟩
 have HU:=Hd (belowThen H0.out hb1)
 have RU:=Hd (R0.out.then hb1)
 clear hb1 e0 e1 e15
 have e0:=RU.out.cell HC0.out
 have e1:=RU.out.cell HC1.out
 have e15:=RU.out.cell HC15.out
 go_wp2_with fail
 clear R0
 have R0:=RU
 clear RU
 refine wp_region_held_drew (S:=fun u=>Below wu.heap.size wu u) (by kernel_rfl) (drewU wu) (fun hHeld=>?_)
 refine' tk 0 (.pointer (some ⟨w.heap.size,15,none⟩)) rfl rfl (.inl ⟨by rfl,fun u hu=>(by go_simp)⟩) hHeld ?_
 simp only [sq1,sq0]
 refine' tk 1 (.slice (some ⟨b,o,none⟩) 2 ac) rfl rfl (.inl ⟨by rfl,fun u hu=>(by have hc:=(R0.out.then hu).cell HC15.out;go_simp)⟩) hHeld ?_
 simp only [sq1,sq0]
 refine' tk 2 (.pointer (some ⟨b,o,none⟩)) rfl rfl (.inl ⟨by rfl,fun u hu=>(by go_simp)⟩) hHeld ?_
 simp only [sq1,sq0]
 refine' tk 3 _ rfl rfl (yieldsIf_load_mid (by kernel_rfl) 34 _ rfl (b) (o) rfl a0 _ (fun u hu=>(HR0.out.below ((belowThen HU.out hu).mono hB) hb).range) Tryz.underlying34 rfl hl0.out) hHeld ?_
 simp only [sq1,sq0]
 refine' tk 7 (.pointer (some ⟨w.heap.size,15,none⟩)) rfl rfl (.inl ⟨by rfl,fun u hu=>(by go_simp)⟩) hHeld ?_
 simp only [sq1,sq0]
 refine' tk 8 (.slice (some ⟨b,o,none⟩) 2 ac) rfl rfl (.inl ⟨by rfl,fun u hu=>(by have hc:=(R0.out.then hu).cell HC15.out;go_simp)⟩) hHeld ?_
 simp only [sq1,sq0]
 refine' tk 9 (.pointer (some ⟨b,o+17,none⟩)) rfl rfl (.inl ⟨by rfl,fun u hu=>(by go_simp)⟩) hHeld ?_
 simp only [sq1,sq0]
 refine' tk 10 _ rfl rfl (yieldsIf_load_mid (by kernel_rfl) 34 _ rfl (b) (o+17) rfl a1 _ (fun u hu=>(HR1.out.below ((belowThen HU.out hu).mono hB) hb).range) Tryz.underlying34 rfl hl1.out) hHeld ?_
 simp only [sq1,sq0]
 refine rd1 4 rfl (fun K hK=>?_)
 go_simp
 refine (at_r f _ K0.out 10 _ B N a0 hN (HKA.out _ (belowThen HU.out hHeld)).1 (HKA.out _ (belowThen HU.out hHeld)).2.1 (HKA.out _ (belowThen HU.out hHeld)).2.2.1).mono ?_
 rw [HS0.out]
 rintro e uC1 ⟨rfl,hbC⟩
 refine hK.out _ _ (belowThen hHeld hbC) (fun hHeld1=>?_)
 clear hK K hbC hHeld
 have hHeld:=hHeld1
 clear hHeld1
 refine' tk 5 (.string (⟨#[116,114,121,32]⟩++s0)) rfl rfl (.inl ⟨by rfl,fun u hu=>(by go_simp;all_goals omega)⟩) hHeld ?_
 simp only [sq1,sq0]
 refine' tk 6 (.string ((⟨#[116,114,121,32]⟩++s0)++⟨#[32,99,97,116,99,104,32]⟩)) rfl rfl (.inl ⟨by rfl,fun u hu=>(by go_simp;all_goals omega)⟩) hHeld ?_
 simp only [sq1,sq0]
 refine rd1 11 rfl (fun K hK=>?_)
 go_simp
 refine (at_r f _ K1.out 10 _ B N a1 hN (HKA.out _ (belowThen HU.out hHeld)).1 (HKA.out _ (belowThen HU.out hHeld)).2.1 (HKA.out _ (belowThen HU.out hHeld)).2.2.2.1).mono ?_
 rw [HS1.out]
 rintro e uC2 ⟨rfl,hbC⟩
 refine hK.out _ _ (belowThen hHeld hbC) (fun hHeld2=>?_)
 clear hK K hbC hHeld
 have hHeld:=hHeld2
 clear hHeld2
 refine' tk 12 (.string (((⟨#[116,114,121,32]⟩++s0)++⟨#[32,99,97,116,99,104,32]⟩)++s1)) rfl rfl (.inl ⟨by rfl,fun u hu=>(by go_simp;all_goals omega)⟩) hHeld ?_
 simp only [sq1,sq0]
 refine rd1 13 rfl (fun K hK=>?_)
 go_simp
 refine hK.out _ _ hHeld (fun hHeldx=>?_)
 clear hK K hHeldx
 refine wpAnyH_done (by kernel_rfl) ?_ _
 go_wp2_with fail
 go_ret
 exact ⟨by rw [HST.out,HR.out];rfl,belowThen HU.out hHeld⟩
end Go.Proofs.YtiefeajappjnbaaGreatDoor
