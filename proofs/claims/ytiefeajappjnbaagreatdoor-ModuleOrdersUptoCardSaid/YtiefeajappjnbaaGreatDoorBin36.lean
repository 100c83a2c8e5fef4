/- qparse.binary: the source of a binary operator (printed by genbin36.py). -/
import Derived.Test.YtiefeajappjnbaaGreatDoorGA
import Derived.Test.YtiefeajappjnbaaGreatDoorMB
import Derived.Test.YtiefeajappjnbaaGreatDoorRow36
import Derived.Test.YtiefeajappjnbaaGreatDoorGI
import Derived.Deep.RegionHeld3
namespace Go.Proofs.YtiefeajappjnbaaGreatDoor
open Go.RowKit
theorem join3' {A B C:Type} {F G:A→B→C→Prop} {R:Prop} (main:(∀ a b c,F a b c→G a b c)→R) (tail:∀ a b c,F a b c→G a b c):R:=main tail
def zE17:List Value:=[.int .i64 0,.string ⟨#[]⟩,.int .i64 0,.bool false,.bool false,.string ⟨#[]⟩,.int .i64 0,.int .i64 0,.int .i64 0,.int .i64 0,.int .i64 0,.string ⟨#[]⟩,.slice none 0 0,.slice none 0 0,.slice none 0 0,.slice none 0 0,.slice none 0 0]
set_option maxRecDepth 100000 in
set_option maxHeartbeats 12800000 in
theorem binary_p (f:ExprD→ByteArray) (x:ExprD) (hop:x.op=9∨x.op=10∨x.op=16∨x.op=28∨x.op=29∨x.op=15∨x.op=14∨x.op=13∨x.op=12) (h2:x.args.length=2) (k0:KidP f (x.args.getD 0 default)) (k1:KidP f (x.args.getD 1 default))
 (w:World) (B N:Nat) (cs:List Value) (hN:N≤1048576) (hB:B≤w.heap.size) (hE:Env w) (hx:ExprD.At w B N x cs):Calls Tryz.prog 62 #[.agg cs.toArray] w (StrB (stepT f x) w):=by
 have HX:=Hd hx
 have HE:=Hd hE
 have K0:=Hd k0
 have K1:=Hd k1
 have HOP:=Hd hop
 obtain ⟨aa,fa,ac,fc,vs,hh⟩:=hx.has
 have HC0:=Hd hh.op
 have HC1:=Hd hh.name
 have hnm:=Hd (show x.name.size≤1048576 from Nat.le_trans hh.own.2.1 hN)
 have hl:=Hd (show (Tryz.prog.info? 34).map (·.size)=some cs.length by rw [hx.len];kernel_rfl)
 obtain ⟨b,o,a0,a1,haa,hb,r0,q0,r1,q1⟩:=args2_at hh h2
 have HC15:=Hd (show cs[15]?=some (.slice (some ⟨b,o,none⟩) 2 ac) by rw [hh.args,h2,haa])
 have hl0:=Hd (show (Tryz.prog.info? 34).map (·.size)=some a0.length by rw [q0.len];kernel_rfl)
 have hl1:=Hd (show (Tryz.prog.info? 34).map (·.size)=some a1.length by rw [q1.len];kernel_rfl)
 have hm0:=Hd (show (Tryz.prog.info? 34).map (·.size)=some a0.toArray.size by rw [List.size_toArray,q0.len];kernel_rfl)
 have hm1:=Hd (show (Tryz.prog.info? 34).map (·.size)=some a1.toArray.size by rw [List.size_toArray,q1.len];kernel_rfl)
 have hz0:=Hd (show zE17.toArray.size=a0.toArray.size by rw [List.size_toArray,List.size_toArray,q0.len];rfl)
 have hz1:=Hd (show zE17.toArray.size=a1.toArray.size by rw [List.size_toArray,List.size_toArray,q1.len];rfl)
 have ho0:=Hd (show a0.toArray.all (·.oneCell')=true from Go.all_oneCell_toArray q0.one)
 have ho1:=Hd (show a1.toArray.all (·.oneCell')=true from Go.all_oneCell_toArray q1.one)
 have HR0:=Hd r0
 have HR1:=Hd r1
 have HQ0:=Hd q0
 have HQ1:=Hd q1
 obtain ⟨w1,hw1⟩:∃ w1,w1=w.alloc (.cells cs.toArray 34):=⟨_,rfl⟩
 have HW:=Hd hw1
 have R0:=Hd (show RowT 34 w1 w.heap.size cs by rw [hw1];exact RowT.new w 34 cs)
 have H0:=Hd (show Below w.heap.size w w1 by rw [hw1];exact belowBox w _)
 clear hx hE hh k0 k1 hop h2 haa r0 r1 q0 q1 hw1
 go_enter Tryz.func62,Tryz.ntmps62
 go_wp2_with fail
 rw [← HW.out]
 refine' join3' (F:=fun (u:World) (g3 g4:Nat)=>Below w1.heap.size w1 u∧w1.heap.size≤g3∧w1.heap.size≤g4∧RowT 34 u g3 a0∧RowT 34 u g4 a1) ?mm ?tt
 case mm =>
  intro TAIL
  have TL:=Hd TAIL
  clear TAIL
  refine wp_region_held_drew (S:=fun u=>Below w1.heap.size w1 u) (by kernel_rfl) (drewU w1) (fun hHeld=>?_)
  refine' tk 0 (.pointer (some ⟨w.heap.size,15,none⟩)) rfl rfl (.inl ⟨by rfl,fun u hu=>(by go_simp)⟩) hHeld ?_
  simp only [sq1,sq0]
  refine' tk 1 (.slice (some ⟨b,o,none⟩) 2 ac) rfl rfl (.inl ⟨by rfl,fun u hu=>(by have hc:=(R0.out.then hu).cell HC15.out;go_simp)⟩) hHeld ?_
  simp only [sq1,sq0]
  refine' tk 2 (.pointer (some ⟨b,o,none⟩)) rfl rfl (.inl ⟨by rfl,fun u hu=>(by go_simp)⟩) hHeld ?_
  simp only [sq1,sq0]
  refine' tk 3 _ rfl rfl (yieldsIf_load_mid (by kernel_rfl) 34 _ rfl (b) (o) rfl a0 _ (fun u hu=>(HR0.out.below (belowThen H0.out hu |>.mono hB) hb).range) Tryz.underlying34 rfl hl0.out) hHeld ?_
  simp only [sq1,sq0]
  refine' tk 4 (.pointer (some ⟨w.heap.size,15,none⟩)) rfl rfl (.inl ⟨by rfl,fun u hu=>(by go_simp)⟩) hHeld ?_
  simp only [sq1,sq0]
  refine' tk 5 (.slice (some ⟨b,o,none⟩) 2 ac) rfl rfl (.inl ⟨by rfl,fun u hu=>(by have hc:=(R0.out.then hu).cell HC15.out;go_simp)⟩) hHeld ?_
  simp only [sq1,sq0]
  refine' tk 6 (.pointer (some ⟨b,o+17,none⟩)) rfl rfl (.inl ⟨by rfl,fun u hu=>(by go_simp)⟩) hHeld ?_
  simp only [sq1,sq0]
  refine' tk 7 _ rfl rfl (yieldsIf_load_mid (by kernel_rfl) 34 _ rfl (b) (o+17) rfl a1 _ (fun u hu=>(HR1.out.below (belowThen H0.out hu |>.mono hB) hb).range) Tryz.underlying34 rfl hl1.out) hHeld ?_
  simp only [sq1,sq0]
  refine wpAnyH_ready (rs:=[8,9]) (by kernel_rfl) (by simp) ?_
  refine AllReadyH.cons rfl (fun K hK=>?_) (AllReadyH.cons rfl (fun K hK=>?_) AllReadyH.nil)
  ·go_simp
   obtain ⟨uA,huA⟩:∃ uA,uA=(w1.alloc (.cells zE0 34)).drew:=⟨_,rfl⟩
   rw [← huA]
   have hA:Below w1.heap.size w1 uA:=by rw [huA];exact belowThen (belowBox w1 _) (drewU _)
   have RA:RowT 34 uA w1.heap.size zE17:=by rw [huA];exact RowT.new w1 34 zE17
   refine hK.out _ _ hA (fun hH1=>?_)
   clear hK K huA hHeld
   refine rd1 9 rfl (fun K hK=>?_)
   go_simp
   obtain ⟨uB,huB⟩:∃ uB,uB=uA.alloc (.cells zE0 34):=⟨_,rfl⟩
   rw [← huB]
   have hB2:Below w1.heap.size w1 uB:=by rw [huB];exact belowThen hA (belowBox uA _)
   have RB:RowT 34 uB uA.heap.size zE17:=by rw [huB];exact RowT.new uA 34 zE17
   have RA2:RowT 34 uB w1.heap.size zE17:=by rw [huB];exact RA.alloc _
   have hne:w1.heap.size≠uA.heap.size:=Nat.ne_of_lt RA.lt
   have hla:w1.heap.size≤uA.heap.size:=hA.size
   refine hK.out _ _ hB2 (fun hH2=>?_)
   clear hK K huB hH1
   refine rd1 10 rfl (fun K hK=>?_)
   rw [if_pos (by kernel_rfl)]
   refine wp_store_row 34 _ _ rfl (w1.heap.size) a0.toArray rfl rfl 34 zE17.toArray RA2 hm0.out hz0.out ho0.out ?_
   simp only [List.getElem_toArray,List.getElem_cons_succ,List.getElem_cons_zero,Act.put]
   have r3:=RA2.setRow a0
   have r4:=RB.setRowOther (b':=w1.heap.size) (by omega) a0.toArray
   have hS:=below_setRow hB2 (show w1.heap.size≤w1.heap.size by omega) a0.toArray
   refine hK.out _ _ hS (fun hHx=>?_)
   clear hK K hHx
   refine rd1 11 rfl (fun K hK=>?_)
   rw [if_pos (by kernel_rfl)]
   refine wp_store_row 34 _ _ rfl (uA.heap.size) a1.toArray rfl rfl 34 zE17.toArray r4 hm1.out hz1.out ho1.out ?_
   simp only [List.getElem_toArray,List.getElem_cons_succ,List.getElem_cons_zero,Act.put]
   have r5:=r4.setRow a1
   have r6:=r3.setRowOther (b':=uA.heap.size) (by omega) a1.toArray
   have hS2:=below_setRow hS (show w1.heap.size≤uA.heap.size by omega) a1.toArray
   refine hK.out _ _ hS2 (fun hHx=>?_)
   clear hK K hHx
   refine wpAnyH_done (by kernel_rfl) ?_ _
   have hF:Below w1.heap.size w1 _∧w1.heap.size≤w1.heap.size∧w1.heap.size≤uA.heap.size∧RowT 34 _ (w1.heap.size) a0∧RowT 34 _ (uA.heap.size) a1:=⟨hS2,by omega,by omega,r6,r5⟩
   clear RA RB RA2 r3 r4 r5 r6 hS hS2 hB2 hH2 hA hne hla
   generalize World.setRow _ _ _=u5 at hF ⊢
   generalize uA.heap.size=g4 at hF ⊢
   obtain ⟨g3,hg3⟩:∃ g3,g3=w1.heap.size:=⟨_,rfl⟩
   have hF2:Below w1.heap.size w1 u5∧w1.heap.size≤g3∧w1.heap.size≤g4∧RowT 34 u5 g3 a0∧RowT 34 u5 g4 a1:=by rw [hg3];exact hF
   rw [← hg3]
   clear hF hg3
   exact TL.out _ _ _ hF2
  ·go_simp
   obtain ⟨uA,huA⟩:∃ uA,uA=(w1.alloc (.cells zE0 34)).drew:=⟨_,rfl⟩
   rw [← huA]
   have hA:Below w1.heap.size w1 uA:=by rw [huA];exact belowThen (belowBox w1 _) (drewU _)
   have RA:RowT 34 uA w1.heap.size zE17:=by rw [huA];exact RowT.new w1 34 zE17
   refine hK.out _ _ hA (fun hH1=>?_)
   clear hK K huA hHeld
   refine rd1 8 rfl (fun K hK=>?_)
   go_simp
   obtain ⟨uB,huB⟩:∃ uB,uB=uA.alloc (.cells zE0 34):=⟨_,rfl⟩
   rw [← huB]
   have hB2:Below w1.heap.size w1 uB:=by rw [huB];exact belowThen hA (belowBox uA _)
   have RB:RowT 34 uB uA.heap.size zE17:=by rw [huB];exact RowT.new uA 34 zE17
   have RA2:RowT 34 uB w1.heap.size zE17:=by rw [huB];exact RA.alloc _
   have hne:w1.heap.size≠uA.heap.size:=Nat.ne_of_lt RA.lt
   have hla:w1.heap.size≤uA.heap.size:=hA.size
   refine hK.out _ _ hB2 (fun hH2=>?_)
   clear hK K huB hH1
   refine rd1 10 rfl (fun K hK=>?_)
   rw [if_pos (by kernel_rfl)]
   refine wp_store_row 34 _ _ rfl (uA.heap.size) a0.toArray rfl rfl 34 zE17.toArray RB hm0.out hz0.out ho0.out ?_
   simp only [List.getElem_toArray,List.getElem_cons_succ,List.getElem_cons_zero,Act.put]
   have r3:=RB.setRow a0
   have r4:=RA2.setRowOther (b':=uA.heap.size) (by omega) a0.toArray
   have hS:=below_setRow hB2 (show w1.heap.size≤uA.heap.size by omega) a0.toArray
   refine hK.out _ _ hS (fun hHx=>?_)
   clear hK K hHx
   refine rd1 11 rfl (fun K hK=>?_)
   rw [if_pos (by kernel_rfl)]
   refine wp_store_row 34 _ _ rfl (w1.heap.size) a1.toArray rfl rfl 34 zE17.toArray r4 hm1.out hz1.out ho1.out ?_
   simp only [List.getElem_toArray,List.getElem_cons_succ,List.getElem_cons_zero,Act.put]
   have r5:=r4.setRow a1
   have r6:=r3.setRowOther (b':=w1.heap.size) (by omega) a1.toArray
   have hS2:=below_setRow hS (show w1.heap.size≤w1.heap.size by omega) a1.toArray
   refine hK.out _ _ hS2 (fun hHx=>?_)
   clear hK K hHx
   refine wpAnyH_done (by kernel_rfl) ?_ _
   have hF:Below w1.heap.size w1 _∧w1.heap.size≤uA.heap.size∧w1.heap.size≤w1.heap.size∧RowT 34 _ (uA.heap.size) a0∧RowT 34 _ (w1.heap.size) a1:=⟨hS2,by omega,by omega,r6,r5⟩
   exact TL.out _ _ _ hF
 rintro wu g3 g4 ⟨hbu,_,_,t3,t4⟩
 have HU:=Hd (belowThen H0.out hbu)
 have RU:=Hd (R0.out.then hbu)
 have T3:=Hd t3
 have T4:=Hd t4
 have HKA:=Hd (show ∀ v,Below wu.heap.size wu v→B≤v.heap.size∧Env v∧ExprD.At v B N (x.args.getD 0 default) a0∧ExprD.At v B N (x.args.getD 1 default) a1∧ExprD.At v B N x cs from fun v hv=>⟨Nat.le_trans hB (belowThen HU.out hv).size,HE.out.then (belowThen HU.out hv),HQ0.out.below ((belowThen HU.out hv).mono hB),HQ1.out.below ((belowThen HU.out hv).mono hB),HX.out.below ((belowThen HU.out hv).mono hB)⟩)
 clear hbu t3 t4
 have e0:=RU.out.cell HC0.out
 obtain ⟨s,hs⟩:∃ s,stepT f x=s:=⟨_,rfl⟩
 have HST:=Hd hs
 rw [hs]
 clear hs
 rcases HOP.out with h | h | h | h | h | h | h | h | h
 ·-- 9
  have HO:=Hd h
  rw [h] at e0
  clear h
  obtain ⟨s0,hs0⟩:∃ s0,atS f 1 (x.args.getD 0 default)=s0:=⟨_,rfl⟩
  obtain ⟨s1,hs1⟩:∃ s1,atS f 0 (x.args.getD 1 default)=s1:=⟨_,rfl⟩
  have HS0:=Hd hs0
  have HS1:=Hd hs1
  have z0:s0.size≤274877906946:=by rw [← hs0];exact Nat.le_trans (atS_le f _ _) (Nat.add_le_add_right K0.out.size 2)
  have z1:s1.size≤274877906946:=by rw [← hs1];exact Nat.le_trans (atS_le f _ _) (Nat.add_le_add_right K1.out.size 2)
  obtain ⟨nm,hnm2⟩:∃ nm,x.name=nm:=⟨_,rfl⟩
  have znm:nm.size≤1048576:=by rw [← hnm2];exact hnm.out
  have HNM:=Hd (show cs[1]?=some (.string nm) by rw [← hnm2];exact HC1.out)
  have HR:=Hd (show s=s0++⟨#[32,124,32]⟩++s1 by
   rw [← HST.out]
   unfold stepT
   rw [HO.out]
   simp only [if_true,if_false,Int.reduceEq]
   unfold twoS
   rw [hs0,hs1]
   done)
  clear hs0 hs1 hnm2
  go_wp2_with fail
  refine wp_region_held_drew (S:=fun u=>Below wu.heap.size wu u) (by kernel_rfl) (drewU wu) (fun hHeld=>?_)
  refine' tk 0 _ rfl rfl (yieldsIf_load_mid (by kernel_rfl) 34 _ rfl (g3) (0) rfl a0 _ (fun u hu=>(T3.out.then hu).range) Tryz.underlying34 rfl hl0.out) hHeld ?_
  simp only [sq1,sq0]
  refine' tk 3 _ rfl rfl (yieldsIf_load_mid (by kernel_rfl) 34 _ rfl (g4) (0) rfl a1 _ (fun u hu=>(T4.out.then hu).range) Tryz.underlying34 rfl hl1.out) hHeld ?_
  simp only [sq1,sq0]
  refine rd1 1 rfl (fun K hK=>?_)
  go_simp
  refine (arg_p f (x.args.getD 0 default) K0.out 1 _ B N a0 hN (HKA.out _ hHeld).1 (HKA.out _ hHeld).2.1 (HKA.out _ hHeld).2.2.1).mono ?_
  rw [HS0.out]
  rintro e uC1 ⟨rfl,hbC⟩
  refine hK.out _ _ (belowThen hHeld hbC) (fun hHeld1=>?_)
  clear hK K hbC hHeld
  have hHeld:=hHeld1
  clear hHeld1
  refine' tk 2 (.string (s0++⟨#[32,124,32]⟩)) rfl rfl (.inl ⟨by rfl,fun u hu=>(by go_simp;all_goals omega)⟩) hHeld ?_
  simp only [sq1,sq0]
  refine rd1 4 rfl (fun K hK=>?_)
  go_simp
  refine (arg_p f (x.args.getD 1 default) K1.out 0 _ B N a1 hN (HKA.out _ hHeld).1 (HKA.out _ hHeld).2.1 (HKA.out _ hHeld).2.2.2.1).mono ?_
  rw [HS1.out]
  rintro e uC2 ⟨rfl,hbC⟩
  refine hK.out _ _ (belowThen hHeld hbC) (fun hHeld2=>?_)
  clear hK K hbC hHeld
  have hHeld:=hHeld2
  clear hHeld2
  refine' tk 5 (.string ((s0++⟨#[32,124,32]⟩)++s1)) rfl rfl (.inl ⟨by rfl,fun u hu=>(by go_simp;all_goals omega)⟩) hHeld ?_
  simp only [sq1,sq0]
  refine rd1 6 rfl (fun K hK=>?_)
  go_simp
  refine hK.out _ _ hHeld (fun hHeldx=>?_)
  clear hK K hHeldx
  refine wpAnyH_done (by kernel_rfl) ?_ _
  go_wp2_with fail
  go_ret
  exact ⟨by rw [HST.out,HR.out];rfl,belowThen HU.out hHeld⟩
 ·-- 10
  have HO:=Hd h
  rw [h] at e0
  clear h
  obtain ⟨s0,hs0⟩:∃ s0,atS f 1 (x.args.getD 0 default)=s0:=⟨_,rfl⟩
  obtain ⟨s1,hs1⟩:∃ s1,atS f 2 (x.args.getD 1 default)=s1:=⟨_,rfl⟩
  have HS0:=Hd hs0
  have HS1:=Hd hs1
  have z0:s0.size≤274877906946:=by rw [← hs0];exact Nat.le_trans (atS_le f _ _) (Nat.add_le_add_right K0.out.size 2)
  have z1:s1.size≤274877906946:=by rw [← hs1];exact Nat.le_trans (atS_le f _ _) (Nat.add_le_add_right K1.out.size 2)
  obtain ⟨nm,hnm2⟩:∃ nm,x.name=nm:=⟨_,rfl⟩
  have znm:nm.size≤1048576:=by rw [← hnm2];exact hnm.out
  have HNM:=Hd (show cs[1]?=some (.string nm) by rw [← hnm2];exact HC1.out)
  have HR:=Hd (show s=s0++⟨#[44,32]⟩++s1 by
   rw [← HST.out]
   unfold stepT
   rw [HO.out]
   simp only [if_true,if_false,Int.reduceEq]
   unfold twoS
   rw [hs0,hs1]
   done)
  clear hs0 hs1 hnm2
  go_wp2_with fail
  refine wp_region_held_drew (S:=fun u=>Below wu.heap.size wu u) (by kernel_rfl) (drewU wu) (fun hHeld=>?_)
  refine' tk 0 _ rfl rfl (yieldsIf_load_mid (by kernel_rfl) 34 _ rfl (g3) (0) rfl a0 _ (fun u hu=>(T3.out.then hu).range) Tryz.underlying34 rfl hl0.out) hHeld ?_
  simp only [sq1,sq0]
  refine' tk 3 _ rfl rfl (yieldsIf_load_mid (by kernel_rfl) 34 _ rfl (g4) (0) rfl a1 _ (fun u hu=>(T4.out.then hu).range) Tryz.underlying34 rfl hl1.out) hHeld ?_
  simp only [sq1,sq0]
  refine rd1 1 rfl (fun K hK=>?_)
  go_simp
  refine (arg_p f (x.args.getD 0 default) K0.out 1 _ B N a0 hN (HKA.out _ hHeld).1 (HKA.out _ hHeld).2.1 (HKA.out _ hHeld).2.2.1).mono ?_
  rw [HS0.out]
  rintro e uC1 ⟨rfl,hbC⟩
  refine hK.out _ _ (belowThen hHeld hbC) (fun hHeld1=>?_)
  clear hK K hbC hHeld
  have hHeld:=hHeld1
  clear hHeld1
  refine' tk 2 (.string (s0++⟨#[44,32]⟩)) rfl rfl (.inl ⟨by rfl,fun u hu=>(by go_simp;all_goals omega)⟩) hHeld ?_
  simp only [sq1,sq0]
  refine rd1 4 rfl (fun K hK=>?_)
  go_simp
  refine (arg_p f (x.args.getD 1 default) K1.out 2 _ B N a1 hN (HKA.out _ hHeld).1 (HKA.out _ hHeld).2.1 (HKA.out _ hHeld).2.2.2.1).mono ?_
  rw [HS1.out]
  rintro e uC2 ⟨rfl,hbC⟩
  refine hK.out _ _ (belowThen hHeld hbC) (fun hHeld2=>?_)
  clear hK K hbC hHeld
  have hHeld:=hHeld2
  clear hHeld2
  refine' tk 5 (.string ((s0++⟨#[44,32]⟩)++s1)) rfl rfl (.inl ⟨by rfl,fun u hu=>(by go_simp;all_goals omega)⟩) hHeld ?_
  simp only [sq1,sq0]
  refine rd1 6 rfl (fun K hK=>?_)
  go_simp
  refine hK.out _ _ hHeld (fun hHeldx=>?_)
  clear hK K hHeldx
  refine wpAnyH_done (by kernel_rfl) ?_ _
  go_wp2_with fail
  go_ret
  exact ⟨by rw [HST.out,HR.out];rfl,belowThen HU.out hHeld⟩
 ·-- 16
  have HO:=Hd h
  rw [h] at e0
  clear h
  obtain ⟨s0,hs0⟩:∃ s0,atS f 3 (x.args.getD 0 default)=s0:=⟨_,rfl⟩
  obtain ⟨s1,hs1⟩:∃ s1,atS f 2 (x.args.getD 1 default)=s1:=⟨_,rfl⟩
  have HS0:=Hd hs0
  have HS1:=Hd hs1
  have z0:s0.size≤274877906946:=by rw [← hs0];exact Nat.le_trans (atS_le f _ _) (Nat.add_le_add_right K0.out.size 2)
  have z1:s1.size≤274877906946:=by rw [← hs1];exact Nat.le_trans (atS_le f _ _) (Nat.add_le_add_right K1.out.size 2)
  obtain ⟨nm,hnm2⟩:∃ nm,x.name=nm:=⟨_,rfl⟩
  have znm:nm.size≤1048576:=by rw [← hnm2];exact hnm.out
  have HNM:=Hd (show cs[1]?=some (.string nm) by rw [← hnm2];exact HC1.out)
  have HR:=Hd (show s=s0++⟨#[32,47,47,32]⟩++s1 by
   rw [← HST.out]
   unfold stepT
   rw [HO.out]
   simp only [if_true,if_false,Int.reduceEq]
   unfold twoS
   rw [hs0,hs1]
   done)
  clear hs0 hs1 hnm2
  go_wp2_with fail
  refine wp_region_held_drew (S:=fun u=>Below wu.heap.size wu u) (by kernel_rfl) (drewU wu) (fun hHeld=>?_)
  refine' tk 0 _ rfl rfl (yieldsIf_load_mid (by kernel_rfl) 34 _ rfl (g3) (0) rfl a0 _ (fun u hu=>(T3.out.then hu).range) Tryz.underlying34 rfl hl0.out) hHeld ?_
  simp only [sq1,sq0]
  refine' tk 3 _ rfl rfl (yieldsIf_load_mid (by kernel_rfl) 34 _ rfl (g4) (0) rfl a1 _ (fun u hu=>(T4.out.then hu).range) Tryz.underlying34 rfl hl1.out) hHeld ?_
  simp only [sq1,sq0]
  refine rd1 1 rfl (fun K hK=>?_)
  go_simp
  refine (arg_p f (x.args.getD 0 default) K0.out 3 _ B N a0 hN (HKA.out _ hHeld).1 (HKA.out _ hHeld).2.1 (HKA.out _ hHeld).2.2.1).mono ?_
  rw [HS0.out]
  rintro e uC1 ⟨rfl,hbC⟩
  refine hK.out _ _ (belowThen hHeld hbC) (fun hHeld1=>?_)
  clear hK K hbC hHeld
  have hHeld:=hHeld1
  clear hHeld1
  refine' tk 2 (.string (s0++⟨#[32,47,47,32]⟩)) rfl rfl (.inl ⟨by rfl,fun u hu=>(by go_simp;all_goals omega)⟩) hHeld ?_
  simp only [sq1,sq0]
  refine rd1 4 rfl (fun K hK=>?_)
  go_simp
  refine (arg_p f (x.args.getD 1 default) K1.out 2 _ B N a1 hN (HKA.out _ hHeld).1 (HKA.out _ hHeld).2.1 (HKA.out _ hHeld).2.2.2.1).mono ?_
  rw [HS1.out]
  rintro e uC2 ⟨rfl,hbC⟩
  refine hK.out _ _ (belowThen hHeld hbC) (fun hHeld2=>?_)
  clear hK K hbC hHeld
  have hHeld:=hHeld2
  clear hHeld2
  refine' tk 5 (.string ((s0++⟨#[32,47,47,32]⟩)++s1)) rfl rfl (.inl ⟨by rfl,fun u hu=>(by go_simp;all_goals omega)⟩) hHeld ?_
  simp only [sq1,sq0]
  refine rd1 6 rfl (fun K hK=>?_)
  go_simp
  refine hK.out _ _ hHeld (fun hHeldx=>?_)
  clear hK K hHeldx
  refine wpAnyH_done (by kernel_rfl) ?_ _
  go_wp2_with fail
  go_ret
  exact ⟨by rw [HST.out,HR.out];rfl,belowThen HU.out hHeld⟩
 ·-- 28
  have HO:=Hd h
  rw [h] at e0
  clear h
  obtain ⟨s0,hs0⟩:∃ s0,atS f 4 (x.args.getD 0 default)=s0:=⟨_,rfl⟩
  obtain ⟨s1,hs1⟩:∃ s1,atS f 4 (x.args.getD 1 default)=s1:=⟨_,rfl⟩
  have HS0:=Hd hs0
  have HS1:=Hd hs1
  have z0:s0.size≤274877906946:=by rw [← hs0];exact Nat.le_trans (atS_le f _ _) (Nat.add_le_add_right K0.out.size 2)
  have z1:s1.size≤274877906946:=by rw [← hs1];exact Nat.le_trans (atS_le f _ _) (Nat.add_le_add_right K1.out.size 2)
  obtain ⟨nm,hnm2⟩:∃ nm,x.name=nm:=⟨_,rfl⟩
  have znm:nm.size≤1048576:=by rw [← hnm2];exact hnm.out
  have HNM:=Hd (show cs[1]?=some (.string nm) by rw [← hnm2];exact HC1.out)
  have HR:=Hd (show s=s0++⟨#[32,61,32]⟩++s1 by
   rw [← HST.out]
   unfold stepT
   rw [HO.out]
   simp only [if_true,if_false,Int.reduceEq]
   unfold twoS
   rw [hs0,hs1]
   done)
  clear hs0 hs1 hnm2
  go_wp2_with fail
  refine wp_region_held_drew (S:=fun u=>Below wu.heap.size wu u) (by kernel_rfl) (drewU wu) (fun hHeld=>?_)
  refine' tk 0 _ rfl rfl (yieldsIf_load_mid (by kernel_rfl) 34 _ rfl (g3) (0) rfl a0 _ (fun u hu=>(T3.out.then hu).range) Tryz.underlying34 rfl hl0.out) hHeld ?_
  simp only [sq1,sq0]
  refine' tk 3 _ rfl rfl (yieldsIf_load_mid (by kernel_rfl) 34 _ rfl (g4) (0) rfl a1 _ (fun u hu=>(T4.out.then hu).range) Tryz.underlying34 rfl hl1.out) hHeld ?_
  simp only [sq1,sq0]
  refine rd1 1 rfl (fun K hK=>?_)
  go_simp
  refine (arg_p f (x.args.getD 0 default) K0.out 4 _ B N a0 hN (HKA.out _ hHeld).1 (HKA.out _ hHeld).2.1 (HKA.out _ hHeld).2.2.1).mono ?_
  rw [HS0.out]
  rintro e uC1 ⟨rfl,hbC⟩
  refine hK.out _ _ (belowThen hHeld hbC) (fun hHeld1=>?_)
  clear hK K hbC hHeld
  have hHeld:=hHeld1
  clear hHeld1
  refine' tk 2 (.string (s0++⟨#[32,61,32]⟩)) rfl rfl (.inl ⟨by rfl,fun u hu=>(by go_simp;all_goals omega)⟩) hHeld ?_
  simp only [sq1,sq0]
  refine rd1 4 rfl (fun K hK=>?_)
  go_simp
  refine (arg_p f (x.args.getD 1 default) K1.out 4 _ B N a1 hN (HKA.out _ hHeld).1 (HKA.out _ hHeld).2.1 (HKA.out _ hHeld).2.2.2.1).mono ?_
  rw [HS1.out]
  rintro e uC2 ⟨rfl,hbC⟩
  refine hK.out _ _ (belowThen hHeld hbC) (fun hHeld2=>?_)
  clear hK K hbC hHeld
  have hHeld:=hHeld2
  clear hHeld2
  refine' tk 5 (.string ((s0++⟨#[32,61,32]⟩)++s1)) rfl rfl (.inl ⟨by rfl,fun u hu=>(by go_simp;all_goals omega)⟩) hHeld ?_
  simp only [sq1,sq0]
  refine rd1 6 rfl (fun K hK=>?_)
  go_simp
  refine hK.out _ _ hHeld (fun hHeldx=>?_)
  clear hK K hHeldx
  refine wpAnyH_done (by kernel_rfl) ?_ _
  go_wp2_with fail
  go_ret
  exact ⟨by rw [HST.out,HR.out];rfl,belowThen HU.out hHeld⟩
 ·-- 29
  have HO:=Hd h
  rw [h] at e0
  clear h
  obtain ⟨s0,hs0⟩:∃ s0,atS f 4 (x.args.getD 0 default)=s0:=⟨_,rfl⟩
  obtain ⟨s1,hs1⟩:∃ s1,atS f 4 (x.args.getD 1 default)=s1:=⟨_,rfl⟩
  have HS0:=Hd hs0
  have HS1:=Hd hs1
  have z0:s0.size≤274877906946:=by rw [← hs0];exact Nat.le_trans (atS_le f _ _) (Nat.add_le_add_right K0.out.size 2)
  have z1:s1.size≤274877906946:=by rw [← hs1];exact Nat.le_trans (atS_le f _ _) (Nat.add_le_add_right K1.out.size 2)
  obtain ⟨nm,hnm2⟩:∃ nm,x.name=nm:=⟨_,rfl⟩
  have znm:nm.size≤1048576:=by rw [← hnm2];exact hnm.out
  have HNM:=Hd (show cs[1]?=some (.string nm) by rw [← hnm2];exact HC1.out)
  have HR:=Hd (show s=s0++⟨#[32,124,61,32]⟩++s1 by
   rw [← HST.out]
   unfold stepT
   rw [HO.out]
   simp only [if_true,if_false,Int.reduceEq]
   unfold twoS
   rw [hs0,hs1]
   done)
  clear hs0 hs1 hnm2
  go_wp2_with fail
  refine wp_region_held_drew (S:=fun u=>Below wu.heap.size wu u) (by kernel_rfl) (drewU wu) (fun hHeld=>?_)
  refine' tk 0 _ rfl rfl (yieldsIf_load_mid (by kernel_rfl) 34 _ rfl (g3) (0) rfl a0 _ (fun u hu=>(T3.out.then hu).range) Tryz.underlying34 rfl hl0.out) hHeld ?_
  simp only [sq1,sq0]
  refine' tk 3 _ rfl rfl (yieldsIf_load_mid (by kernel_rfl) 34 _ rfl (g4) (0) rfl a1 _ (fun u hu=>(T4.out.then hu).range) Tryz.underlying34 rfl hl1.out) hHeld ?_
  simp only [sq1,sq0]
  refine rd1 1 rfl (fun K hK=>?_)
  go_simp
  refine (arg_p f (x.args.getD 0 default) K0.out 4 _ B N a0 hN (HKA.out _ hHeld).1 (HKA.out _ hHeld).2.1 (HKA.out _ hHeld).2.2.1).mono ?_
  rw [HS0.out]
  rintro e uC1 ⟨rfl,hbC⟩
  refine hK.out _ _ (belowThen hHeld hbC) (fun hHeld1=>?_)
  clear hK K hbC hHeld
  have hHeld:=hHeld1
  clear hHeld1
  refine' tk 2 (.string (s0++⟨#[32,124,61,32]⟩)) rfl rfl (.inl ⟨by rfl,fun u hu=>(by go_simp;all_goals omega)⟩) hHeld ?_
  simp only [sq1,sq0]
  refine rd1 4 rfl (fun K hK=>?_)
  go_simp
  refine (arg_p f (x.args.getD 1 default) K1.out 4 _ B N a1 hN (HKA.out _ hHeld).1 (HKA.out _ hHeld).2.1 (HKA.out _ hHeld).2.2.2.1).mono ?_
  rw [HS1.out]
  rintro e uC2 ⟨rfl,hbC⟩
  refine hK.out _ _ (belowThen hHeld hbC) (fun hHeld2=>?_)
  clear hK K hbC hHeld
  have hHeld:=hHeld2
  clear hHeld2
  refine' tk 5 (.string ((s0++⟨#[32,124,61,32]⟩)++s1)) rfl rfl (.inl ⟨by rfl,fun u hu=>(by go_simp;all_goals omega)⟩) hHeld ?_
  simp only [sq1,sq0]
  refine rd1 6 rfl (fun K hK=>?_)
  go_simp
  refine hK.out _ _ hHeld (fun hHeldx=>?_)
  clear hK K hHeldx
  refine wpAnyH_done (by kernel_rfl) ?_ _
  go_wp2_with fail
  go_ret
  exact ⟨by rw [HST.out,HR.out];rfl,belowThen HU.out hHeld⟩
 ·-- 15
  have HO:=Hd h
  rw [h] at e0
  clear h
  obtain ⟨s0,hs0⟩:∃ s0,atS f 4 (x.args.getD 0 default)=s0:=⟨_,rfl⟩
  obtain ⟨s1,hs1⟩:∃ s1,atS f 5 (x.args.getD 1 default)=s1:=⟨_,rfl⟩
  have HS0:=Hd hs0
  have HS1:=Hd hs1
  have z0:s0.size≤274877906946:=by rw [← hs0];exact Nat.le_trans (atS_le f _ _) (Nat.add_le_add_right K0.out.size 2)
  have z1:s1.size≤274877906946:=by rw [← hs1];exact Nat.le_trans (atS_le f _ _) (Nat.add_le_add_right K1.out.size 2)
  obtain ⟨nm,hnm2⟩:∃ nm,x.name=nm:=⟨_,rfl⟩
  have znm:nm.size≤1048576:=by rw [← hnm2];exact hnm.out
  have HNM:=Hd (show cs[1]?=some (.string nm) by rw [← hnm2];exact HC1.out)
  have HR:=Hd (show s=s0++⟨#[32,111,114,32]⟩++s1 by
   rw [← HST.out]
   unfold stepT
   rw [HO.out]
   simp only [if_true,if_false,Int.reduceEq]
   unfold twoS
   rw [hs0,hs1]
   done)
  clear hs0 hs1 hnm2
  go_wp2_with fail
  refine wp_region_held_drew (S:=fun u=>Below wu.heap.size wu u) (by kernel_rfl) (drewU wu) (fun hHeld=>?_)
  refine' tk 0 _ rfl rfl (yieldsIf_load_mid (by kernel_rfl) 34 _ rfl (g3) (0) rfl a0 _ (fun u hu=>(T3.out.then hu).range) Tryz.underlying34 rfl hl0.out) hHeld ?_
  simp only [sq1,sq0]
  refine' tk 3 _ rfl rfl (yieldsIf_load_mid (by kernel_rfl) 34 _ rfl (g4) (0) rfl a1 _ (fun u hu=>(T4.out.then hu).range) Tryz.underlying34 rfl hl1.out) hHeld ?_
  simp only [sq1,sq0]
  refine rd1 1 rfl (fun K hK=>?_)
  go_simp
  refine (arg_p f (x.args.getD 0 default) K0.out 4 _ B N a0 hN (HKA.out _ hHeld).1 (HKA.out _ hHeld).2.1 (HKA.out _ hHeld).2.2.1).mono ?_
  rw [HS0.out]
  rintro e uC1 ⟨rfl,hbC⟩
  refine hK.out _ _ (belowThen hHeld hbC) (fun hHeld1=>?_)
  clear hK K hbC hHeld
  have hHeld:=hHeld1
  clear hHeld1
  refine' tk 2 (.string (s0++⟨#[32,111,114,32]⟩)) rfl rfl (.inl ⟨by rfl,fun u hu=>(by go_simp;all_goals omega)⟩) hHeld ?_
  simp only [sq1,sq0]
  refine rd1 4 rfl (fun K hK=>?_)
  go_simp
  refine (arg_p f (x.args.getD 1 default) K1.out 5 _ B N a1 hN (HKA.out _ hHeld).1 (HKA.out _ hHeld).2.1 (HKA.out _ hHeld).2.2.2.1).mono ?_
  rw [HS1.out]
  rintro e uC2 ⟨rfl,hbC⟩
  refine hK.out _ _ (belowThen hHeld hbC) (fun hHeld2=>?_)
  clear hK K hbC hHeld
  have hHeld:=hHeld2
  clear hHeld2
  refine' tk 5 (.string ((s0++⟨#[32,111,114,32]⟩)++s1)) rfl rfl (.inl ⟨by rfl,fun u hu=>(by go_simp;all_goals omega)⟩) hHeld ?_
  simp only [sq1,sq0]
  refine rd1 6 rfl (fun K hK=>?_)
  go_simp
  refine hK.out _ _ hHeld (fun hHeldx=>?_)
  clear hK K hHeldx
  refine wpAnyH_done (by kernel_rfl) ?_ _
  go_wp2_with fail
  go_ret
  exact ⟨by rw [HST.out,HR.out];rfl,belowThen HU.out hHeld⟩
 ·-- 14
  have HO:=Hd h
  rw [h] at e0
  clear h
  obtain ⟨s0,hs0⟩:∃ s0,atS f 5 (x.args.getD 0 default)=s0:=⟨_,rfl⟩
  obtain ⟨s1,hs1⟩:∃ s1,atS f 6 (x.args.getD 1 default)=s1:=⟨_,rfl⟩
  have HS0:=Hd hs0
  have HS1:=Hd hs1
  have z0:s0.size≤274877906946:=by rw [← hs0];exact Nat.le_trans (atS_le f _ _) (Nat.add_le_add_right K0.out.size 2)
  have z1:s1.size≤274877906946:=by rw [← hs1];exact Nat.le_trans (atS_le f _ _) (Nat.add_le_add_right K1.out.size 2)
  obtain ⟨nm,hnm2⟩:∃ nm,x.name=nm:=⟨_,rfl⟩
  have znm:nm.size≤1048576:=by rw [← hnm2];exact hnm.out
  have HNM:=Hd (show cs[1]?=some (.string nm) by rw [← hnm2];exact HC1.out)
  have HR:=Hd (show s=s0++⟨#[32,97,110,100,32]⟩++s1 by
   rw [← HST.out]
   unfold stepT
   rw [HO.out]
   simp only [if_true,if_false,Int.reduceEq]
   unfold twoS
   rw [hs0,hs1]
   done)
  clear hs0 hs1 hnm2
  go_wp2_with fail
  refine wp_region_held_drew (S:=fun u=>Below wu.heap.size wu u) (by kernel_rfl) (drewU wu) (fun hHeld=>?_)
  refine' tk 0 _ rfl rfl (yieldsIf_load_mid (by kernel_rfl) 34 _ rfl (g3) (0) rfl a0 _ (fun u hu=>(T3.out.then hu).range) Tryz.underlying34 rfl hl0.out) hHeld ?_
  simp only [sq1,sq0]
  refine' tk 3 _ rfl rfl (yieldsIf_load_mid (by kernel_rfl) 34 _ rfl (g4) (0) rfl a1 _ (fun u hu=>(T4.out.then hu).range) Tryz.underlying34 rfl hl1.out) hHeld ?_
  simp only [sq1,sq0]
  refine rd1 1 rfl (fun K hK=>?_)
  go_simp
  refine (arg_p f (x.args.getD 0 default) K0.out 5 _ B N a0 hN (HKA.out _ hHeld).1 (HKA.out _ hHeld).2.1 (HKA.out _ hHeld).2.2.1).mono ?_
  rw [HS0.out]
  rintro e uC1 ⟨rfl,hbC⟩
  refine hK.out _ _ (belowThen hHeld hbC) (fun hHeld1=>?_)
  clear hK K hbC hHeld
  have hHeld:=hHeld1
  clear hHeld1
  refine' tk 2 (.string (s0++⟨#[32,97,110,100,32]⟩)) rfl rfl (.inl ⟨by rfl,fun u hu=>(by go_simp;all_goals omega)⟩) hHeld ?_
  simp only [sq1,sq0]
  refine rd1 4 rfl (fun K hK=>?_)
  go_simp
  refine (arg_p f (x.args.getD 1 default) K1.out 6 _ B N a1 hN (HKA.out _ hHeld).1 (HKA.out _ hHeld).2.1 (HKA.out _ hHeld).2.2.2.1).mono ?_
  rw [HS1.out]
  rintro e uC2 ⟨rfl,hbC⟩
  refine hK.out _ _ (belowThen hHeld hbC) (fun hHeld2=>?_)
  clear hK K hbC hHeld
  have hHeld:=hHeld2
  clear hHeld2
  refine' tk 5 (.string ((s0++⟨#[32,97,110,100,32]⟩)++s1)) rfl rfl (.inl ⟨by rfl,fun u hu=>(by go_simp;all_goals omega)⟩) hHeld ?_
  simp only [sq1,sq0]
  refine rd1 6 rfl (fun K hK=>?_)
  go_simp
  refine hK.out _ _ hHeld (fun hHeldx=>?_)
  clear hK K hHeldx
  refine wpAnyH_done (by kernel_rfl) ?_ _
  go_wp2_with fail
  go_ret
  exact ⟨by rw [HST.out,HR.out];rfl,belowThen HU.out hHeld⟩
 ·-- 13
  have HO:=Hd h
  rw [h] at e0
  clear h
  obtain ⟨s0,hs0⟩:∃ s0,atS f 7 (x.args.getD 0 default)=s0:=⟨_,rfl⟩
  obtain ⟨s1,hs1⟩:∃ s1,atS f 7 (x.args.getD 1 default)=s1:=⟨_,rfl⟩
  have HS0:=Hd hs0
  have HS1:=Hd hs1
  have z0:s0.size≤274877906946:=by rw [← hs0];exact Nat.le_trans (atS_le f _ _) (Nat.add_le_add_right K0.out.size 2)
  have z1:s1.size≤274877906946:=by rw [← hs1];exact Nat.le_trans (atS_le f _ _) (Nat.add_le_add_right K1.out.size 2)
  obtain ⟨nm,hnm2⟩:∃ nm,x.name=nm:=⟨_,rfl⟩
  have znm:nm.size≤1048576:=by rw [← hnm2];exact hnm.out
  have HNM:=Hd (show cs[1]?=some (.string nm) by rw [← hnm2];exact HC1.out)
  have HR:=Hd (show s=s0++⟨#[32]⟩++nm++⟨#[32]⟩++s1 by
   rw [← HST.out]
   unfold stepT
   rw [HO.out]
   simp only [if_true,if_false,Int.reduceEq]
   unfold twoS
   rw [hs0,hs1,hnm2]
   simp only [ByteArray.append_assoc]
   done)
  clear hs0 hs1 hnm2
  go_wp2_with fail
  refine wp_region_held_drew (S:=fun u=>Below wu.heap.size wu u) (by kernel_rfl) (drewU wu) (fun hHeld=>?_)
  refine' tk 0 _ rfl rfl (yieldsIf_load_mid (by kernel_rfl) 34 _ rfl (g3) (0) rfl a0 _ (fun u hu=>(T3.out.then hu).range) Tryz.underlying34 rfl hl0.out) hHeld ?_
  simp only [sq1,sq0]
  refine' tk 3 (.pointer (some ⟨w.heap.size,1,none⟩)) rfl rfl (.inl ⟨by rfl,fun u hu=>(by go_simp)⟩) hHeld ?_
  simp only [sq1,sq0]
  refine' tk 4 (.string nm) rfl rfl (.inl ⟨by rfl,fun u hu=>(by have hc:=(RU.out.then hu).cell HNM.out;go_simp)⟩) hHeld ?_
  simp only [sq1,sq0]
  refine' tk 7 _ rfl rfl (yieldsIf_load_mid (by kernel_rfl) 34 _ rfl (g4) (0) rfl a1 _ (fun u hu=>(T4.out.then hu).range) Tryz.underlying34 rfl hl1.out) hHeld ?_
  simp only [sq1,sq0]
  refine rd1 1 rfl (fun K hK=>?_)
  go_simp
  refine (arg_p f (x.args.getD 0 default) K0.out 7 _ B N a0 hN (HKA.out _ hHeld).1 (HKA.out _ hHeld).2.1 (HKA.out _ hHeld).2.2.1).mono ?_
  rw [HS0.out]
  rintro e uC1 ⟨rfl,hbC⟩
  refine hK.out _ _ (belowThen hHeld hbC) (fun hHeld1=>?_)
  clear hK K hbC hHeld
  have hHeld:=hHeld1
  clear hHeld1
  refine' tk 2 (.string (s0++⟨#[32]⟩)) rfl rfl (.inl ⟨by rfl,fun u hu=>(by go_simp;all_goals omega)⟩) hHeld ?_
  simp only [sq1,sq0]
  refine' tk 5 (.string ((s0++⟨#[32]⟩)++nm)) rfl rfl (.inl ⟨by rfl,fun u hu=>(by go_simp;all_goals omega)⟩) hHeld ?_
  simp only [sq1,sq0]
  refine' tk 6 (.string (((s0++⟨#[32]⟩)++nm)++⟨#[32]⟩)) rfl rfl (.inl ⟨by rfl,fun u hu=>(by go_simp;all_goals omega)⟩) hHeld ?_
  simp only [sq1,sq0]
  refine rd1 8 rfl (fun K hK=>?_)
  go_simp
  refine (arg_p f (x.args.getD 1 default) K1.out 7 _ B N a1 hN (HKA.out _ hHeld).1 (HKA.out _ hHeld).2.1 (HKA.out _ hHeld).2.2.2.1).mono ?_
  rw [HS1.out]
  rintro e uC2 ⟨rfl,hbC⟩
  refine hK.out _ _ (belowThen hHeld hbC) (fun hHeld2=>?_)
  clear hK K hbC hHeld
  have hHeld:=hHeld2
  clear hHeld2
  refine' tk 9 (.string ((((s0++⟨#[32]⟩)++nm)++⟨#[32]⟩)++s1)) rfl rfl (.inl ⟨by rfl,fun u hu=>(by go_simp;all_goals omega)⟩) hHeld ?_
  simp only [sq1,sq0]
  refine rd1 10 rfl (fun K hK=>?_)
  go_simp
  refine hK.out _ _ hHeld (fun hHeldx=>?_)
  clear hK K hHeldx
  refine wpAnyH_done (by kernel_rfl) ?_ _
  go_wp2_with fail
  go_ret
  exact ⟨by rw [HST.out,HR.out];rfl,belowThen HU.out hHeld⟩
 ·-- 12
  have HO:=Hd h
  rw [h] at e0
  clear h
  have hlv:levS x=7∨levS x=8:=by
   unfold levS
   rw [HO.out]
   by_cases h:x.name.data.toList=[43]∨x.name.data.toList=[45]
   ·left;simp [h]
   ·right;simp [h]
  have h17:x.op=17→x.args.length=2:=fun h=>by rw [HO.out] at h;exact absurd h (by decide)
  have hop:1≤x.op∧x.op≤30:=by rw [HO.out];decide
  go_wp2_with ((with_reducible show wpList _ _ _ (⟨some 84,_,_,_,_,_⟩::_) _ _);refine wpList_load_mid rfl 34 _ rfl w.heap.size 0 rfl cs _ RU.out.range Tryz.underlying34 rfl hl.out ?_)
  refine (level_p x _ B N cs hop h17 (HKA.out _ (Below.refl _ _)).1 (HKA.out _ (Below.refl _ _)).2.2.2.2).mono ?_
  rintro e u7 ⟨rfl,hb7⟩
  have HB7:=Hd hb7
  have T37:=Hd (T3.out.then hb7)
  have T47:=Hd (T4.out.then hb7)
  have RU7:=Hd (RU.out.then hb7)
  clear hb7 h17 hop
  rcases hlv with hlv | hlv
  ·rw [hlv]
   have HLV:=Hd hlv
   clear hlv
   obtain ⟨s0,hs0⟩:∃ s0,atS f 7 (x.args.getD 0 default)=s0:=⟨_,rfl⟩
   obtain ⟨s1,hs1⟩:∃ s1,atS f 8 (x.args.getD 1 default)=s1:=⟨_,rfl⟩
   have HS0:=Hd hs0
   have HS1:=Hd hs1
   have z0:s0.size≤274877906946:=by rw [← hs0];exact Nat.le_trans (atS_le f _ _) (Nat.add_le_add_right K0.out.size 2)
   have z1:s1.size≤274877906946:=by rw [← hs1];exact Nat.le_trans (atS_le f _ _) (Nat.add_le_add_right K1.out.size 2)
   obtain ⟨nm,hnm2⟩:∃ nm,x.name=nm:=⟨_,rfl⟩
   have znm:nm.size≤1048576:=by rw [← hnm2];exact hnm.out
   have HNM:=Hd (show cs[1]?=some (.string nm) by rw [← hnm2];exact HC1.out)
   have HR:=Hd (show s=s0++⟨#[32]⟩++nm++⟨#[32]⟩++s1 by
    rw [← HST.out]
    unfold stepT
    rw [HO.out]
    simp only [if_true,if_false,Int.reduceEq]
    unfold twoS
    rw [HLV.out,show ((7:Int)+1)=8 from rfl]
    rw [hs0,hs1,hnm2]
    simp only [ByteArray.append_assoc]
    done)
   clear hs0 hs1 hnm2
   go_wp2_with fail
   refine wp_region_held_drew (S:=fun u=>Below u7.heap.size u7 u) (by kernel_rfl) (drewU u7) (fun hHeld=>?_)
   refine' tk 0 _ rfl rfl (yieldsIf_load_mid (by kernel_rfl) 34 _ rfl (g3) (0) rfl a0 _ (fun u hu=>(T37.out.then hu).range) Tryz.underlying34 rfl hl0.out) hHeld ?_
   simp only [sq1,sq0]
   refine' tk 1 (.int .i64 7) rfl rfl (.inl ⟨by rfl,fun u hu=>(by go_simp)⟩) hHeld ?_
   simp only [sq1,sq0]
   refine' tk 4 (.pointer (some ⟨w.heap.size,1,none⟩)) rfl rfl (.inl ⟨by rfl,fun u hu=>(by go_simp)⟩) hHeld ?_
   simp only [sq1,sq0]
   refine' tk 5 (.string nm) rfl rfl (.inl ⟨by rfl,fun u hu=>(by have hc:=(RU7.out.then hu).cell HNM.out;go_simp)⟩) hHeld ?_
   simp only [sq1,sq0]
   refine' tk 8 _ rfl rfl (yieldsIf_load_mid (by kernel_rfl) 34 _ rfl (g4) (0) rfl a1 _ (fun u hu=>(T47.out.then hu).range) Tryz.underlying34 rfl hl1.out) hHeld ?_
   simp only [sq1,sq0]
   refine' tk 9 (.int .i64 7) rfl rfl (.inl ⟨by rfl,fun u hu=>(by go_simp)⟩) hHeld ?_
   simp only [sq1,sq0]
   refine' tk 10 (.int .i64 8) rfl rfl (.inl ⟨by rfl,fun u hu=>(by go_simp;all_goals rfl)⟩) hHeld ?_
   simp only [sq1,sq0]
   refine rd1 2 rfl (fun K hK=>?_)
   go_simp
   refine (arg_p f (x.args.getD 0 default) K0.out 7 _ B N a0 hN (HKA.out _ (HB7.out.trans (hHeld.mono HB7.out.size))).1 (HKA.out _ (HB7.out.trans (hHeld.mono HB7.out.size))).2.1 (HKA.out _ (HB7.out.trans (hHeld.mono HB7.out.size))).2.2.1).mono ?_
   rw [HS0.out]
   rintro e uC1 ⟨rfl,hbC⟩
   refine hK.out _ _ (belowThen hHeld hbC) (fun hHeld1=>?_)
   clear hK K hbC hHeld
   have hHeld:=hHeld1
   clear hHeld1
   refine' tk 3 (.string (s0++⟨#[32]⟩)) rfl rfl (.inl ⟨by rfl,fun u hu=>(by go_simp;all_goals omega)⟩) hHeld ?_
   simp only [sq1,sq0]
   refine' tk 6 (.string ((s0++⟨#[32]⟩)++nm)) rfl rfl (.inl ⟨by rfl,fun u hu=>(by go_simp;all_goals omega)⟩) hHeld ?_
   simp only [sq1,sq0]
   refine' tk 7 (.string (((s0++⟨#[32]⟩)++nm)++⟨#[32]⟩)) rfl rfl (.inl ⟨by rfl,fun u hu=>(by go_simp;all_goals omega)⟩) hHeld ?_
   simp only [sq1,sq0]
   refine rd1 11 rfl (fun K hK=>?_)
   go_simp
   refine (arg_p f (x.args.getD 1 default) K1.out 8 _ B N a1 hN (HKA.out _ (HB7.out.trans (hHeld.mono HB7.out.size))).1 (HKA.out _ (HB7.out.trans (hHeld.mono HB7.out.size))).2.1 (HKA.out _ (HB7.out.trans (hHeld.mono HB7.out.size))).2.2.2.1).mono ?_
   rw [HS1.out]
   rintro e uC2 ⟨rfl,hbC⟩
   refine hK.out _ _ (belowThen hHeld hbC) (fun hHeld2=>?_)
   clear hK K hbC hHeld
   have hHeld:=hHeld2
   clear hHeld2
   refine' tk 12 (.string ((((s0++⟨#[32]⟩)++nm)++⟨#[32]⟩)++s1)) rfl rfl (.inl ⟨by rfl,fun u hu=>(by go_simp;all_goals omega)⟩) hHeld ?_
   simp only [sq1,sq0]
   refine rd1 13 rfl (fun K hK=>?_)
   go_simp
   refine hK.out _ _ hHeld (fun hHeldx=>?_)
   clear hK K hHeldx
   refine wpAnyH_done (by kernel_rfl) ?_ _
   go_wp2_with fail
   go_ret
   exact ⟨by rw [HST.out,HR.out];rfl,belowThen (belowThen HU.out HB7.out) hHeld⟩
  ·rw [hlv]
   have HLV:=Hd hlv
   clear hlv
   obtain ⟨s0,hs0⟩:∃ s0,atS f 8 (x.args.getD 0 default)=s0:=⟨_,rfl⟩
   obtain ⟨s1,hs1⟩:∃ s1,atS f 9 (x.args.getD 1 default)=s1:=⟨_,rfl⟩
   have HS0:=Hd hs0
   have HS1:=Hd hs1
   have z0:s0.size≤274877906946:=by rw [← hs0];exact Nat.le_trans (atS_le f _ _) (Nat.add_le_add_right K0.out.size 2)
   have z1:s1.size≤274877906946:=by rw [← hs1];exact Nat.le_trans (atS_le f _ _) (Nat.add_le_add_right K1.out.size 2)
   obtain ⟨nm,hnm2⟩:∃ nm,x.name=nm:=⟨_,rfl⟩
   have znm:nm.size≤1048576:=by rw [← hnm2];exact hnm.out
   have HNM:=Hd (show cs[1]?=some (.string nm) by rw [← hnm2];exact HC1.out)
   have HR:=Hd (show s=s0++⟨#[32]⟩++nm++⟨#[32]⟩++s1 by
    rw [← HST.out]
    unfold stepT
    rw [HO.out]
    simp only [if_true,if_false,Int.reduceEq]
    unfold twoS
    rw [HLV.out,show ((8:Int)+1)=9 from rfl]
    rw [hs0,hs1,hnm2]
    simp only [ByteArray.append_assoc]
    done)
   clear hs0 hs1 hnm2
   go_wp2_with fail
   refine wp_region_held_drew (S:=fun u=>Below u7.heap.size u7 u) (by kernel_rfl) (drewU u7) (fun hHeld=>?_)
   refine' tk 0 _ rfl rfl (yieldsIf_load_mid (by kernel_rfl) 34 _ rfl (g3) (0) rfl a0 _ (fun u hu=>(T37.out.then hu).range) Tryz.underlying34 rfl hl0.out) hHeld ?_
   simp only [sq1,sq0]
   refine' tk 1 (.int .i64 8) rfl rfl (.inl ⟨by rfl,fun u hu=>(by go_simp)⟩) hHeld ?_
   simp only [sq1,sq0]
   refine' tk 4 (.pointer (some ⟨w.heap.size,1,none⟩)) rfl rfl (.inl ⟨by rfl,fun u hu=>(by go_simp)⟩) hHeld ?_
   simp only [sq1,sq0]
   refine' tk 5 (.string nm) rfl rfl (.inl ⟨by rfl,fun u hu=>(by have hc:=(RU7.out.then hu).cell HNM.out;go_simp)⟩) hHeld ?_
   simp only [sq1,sq0]
   refine' tk 8 _ rfl rfl (yieldsIf_load_mid (by kernel_rfl) 34 _ rfl (g4) (0) rfl a1 _ (fun u hu=>(T47.out.then hu).range) Tryz.underlying34 rfl hl1.out) hHeld ?_
   simp only [sq1,sq0]
   refine' tk 9 (.int .i64 8) rfl rfl (.inl ⟨by rfl,fun u hu=>(by go_simp)⟩) hHeld ?_
   simp only [sq1,sq0]
   refine' tk 10 (.int .i64 9) rfl rfl (.inl ⟨by rfl,fun u hu=>(by go_simp;all_goals rfl)⟩) hHeld ?_
   simp only [sq1,sq0]
   refine rd1 2 rfl (fun K hK=>?_)
   go_simp
   refine (arg_p f (x.args.getD 0 default) K0.out 8 _ B N a0 hN (HKA.out _ (HB7.out.trans (hHeld.mono HB7.out.size))).1 (HKA.out _ (HB7.out.trans (hHeld.mono HB7.out.size))).2.1 (HKA.out _ (HB7.out.trans (hHeld.mono HB7.out.size))).2.2.1).mono ?_
   rw [HS0.out]
   rintro e uC1 ⟨rfl,hbC⟩
   refine hK.out _ _ (belowThen hHeld hbC) (fun hHeld1=>?_)
   clear hK K hbC hHeld
   have hHeld:=hHeld1
   clear hHeld1
   refine' tk 3 (.string (s0++⟨#[32]⟩)) rfl rfl (.inl ⟨by rfl,fun u hu=>(by go_simp;all_goals omega)⟩) hHeld ?_
   simp only [sq1,sq0]
   refine' tk 6 (.string ((s0++⟨#[32]⟩)++nm)) rfl rfl (.inl ⟨by rfl,fun u hu=>(by go_simp;all_goals omega)⟩) hHeld ?_
   simp only [sq1,sq0]
   refine' tk 7 (.string (((s0++⟨#[32]⟩)++nm)++⟨#[32]⟩)) rfl rfl (.inl ⟨by rfl,fun u hu=>(by go_simp;all_goals omega)⟩) hHeld ?_
   simp only [sq1,sq0]
   refine rd1 11 rfl (fun K hK=>?_)
   go_simp
   refine (arg_p f (x.args.getD 1 default) K1.out 9 _ B N a1 hN (HKA.out _ (HB7.out.trans (hHeld.mono HB7.out.size))).1 (HKA.out _ (HB7.out.trans (hHeld.mono HB7.out.size))).2.1 (HKA.out _ (HB7.out.trans (hHeld.mono HB7.out.size))).2.2.2.1).mono ?_
   rw [HS1.out]
   rintro e uC2 ⟨rfl,hbC⟩
   refine hK.out _ _ (belowThen hHeld hbC) (fun hHeld2=>?_)
   clear hK K hbC hHeld
   have hHeld:=hHeld2
   clear hHeld2
   refine' tk 12 (.string ((((s0++⟨#[32]⟩)++nm)++⟨#[32]⟩)++s1)) rfl rfl (.inl ⟨by rfl,fun u hu=>(by go_simp;all_goals omega)⟩) hHeld ?_
   simp only [sq1,sq0]
   refine rd1 13 rfl (fun K hK=>?_)
   go_simp
   refine hK.out _ _ hHeld (fun hHeldx=>?_)
   clear hK K hHeldx
   refine wpAnyH_done (by kernel_rfl) ?_ _
   go_wp2_with fail
   go_ret
   exact ⟨by rw [HST.out,HR.out];rfl,belowThen (belowThen HU.out HB7.out) hHeld⟩
end Go.Proofs.YtiefeajappjnbaaGreatDoor
