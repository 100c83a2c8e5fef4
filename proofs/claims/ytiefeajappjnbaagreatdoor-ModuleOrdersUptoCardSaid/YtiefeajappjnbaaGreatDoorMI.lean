/- qparse.show: a call (printed by genshc36.py). -/
import Derived.Test.YtiefeajappjnbaaGreatDoorGA
import Derived.Test.YtiefeajappjnbaaGreatDoorSwp36
import Derived.Test.YtiefeajappjnbaaGreatDoorMD
namespace Go.Proofs.YtiefeajappjnbaaGreatDoor
open Go.RowKit
theorem prsL_all (f:ExprD→ByteArray) {l:List ExprD} (h:∀ a∈l,a.op≠30):prsL f l=l.map f:=by
 unfold prsL
 rw [List.filter_eq_self.2 (fun a ha=>by simpa using h a ha)]
set_option maxRecDepth 100000 in
set_option maxHeartbeats 6400000 in
theorem show_21_0 (f:ExprD→ByteArray) (x:ExprD) (ho:x.op=21) (ha:x.args=[])
 (w:World) (B N:Nat) (cs:List Value) (hN:N≤1048576) (hB:B≤w.heap.size) (hE:Env w) (hx:ExprD.At w B N x cs):Calls Tryz.prog 22 #[.agg cs.toArray] w (StrB (stepT f x) w):=by
 have HX:=Hd hx
 have HE:=Hd hE
 have HO:=Hd ho
 obtain ⟨aa,fa,ac,fc,vs,hh⟩:=hx.has
 have HC0:=Hd (show cs[0]?=some (.int .i64 21) by rw [← ho];exact hh.op)
 have hnm:=Hd (show x.name.size≤1048576 from Nat.le_trans hh.own.2.1 hN)
 obtain ⟨nm,hnm2⟩:∃ nm,x.name=nm:=⟨_,rfl⟩
 have znm:nm.size≤1048576:=by rw [← hnm2];exact hnm.out
 have HC1:=Hd (show cs[1]?=some (.string nm) by rw [← hnm2];exact hh.name)
 have HARG:=Hd hh.atArgs
 have HC15:=Hd (show cs[15]?=some (.slice aa 0 ac) by rw [hh.args,ha];rfl)
 obtain ⟨w1,hw1⟩:∃ w1,w1=w.alloc (.cells cs.toArray 34):=⟨_,rfl⟩
 have HW:=Hd hw1
 have R0:=Hd (show RowT 34 w1 w.heap.size cs by rw [hw1];exact RowT.new w 34 cs)
 have H0:=Hd (show Below w.heap.size w w1 by rw [hw1];exact belowBox w _)
 have HKA:=Hd (show ∀ v,Below w.heap.size w v→B≤v.heap.size∧Env v∧ExprsAt v B N x.args aa from fun v hv=>⟨Nat.le_trans hB hv.size,HE.out.then hv,ExprsAt.below (hv.mono hB) _ HARG.out⟩)
 have e0:=R0.out.cell HC0.out
 have e1:=R0.out.cell HC1.out
 have e15:=R0.out.cell HC15.out
 rw [hw1] at e0 e1 e15
 have HR:=Hd (show stepT f x=nm by
  unfold stepT
  rw [HO.out]
  simp only [if_true,if_false,Int.reduceEq]
  rw [if_pos ha,hnm2])
 clear hx hE hh ho hnm2 hw1 ha
 go_enter Tryz.func22,Tryz.ntmps22
 go_wp2_with fail
 go_ret
 exact ⟨by rw [HR.out];rfl,by rw [← HW.out];exact H0.out⟩
set_option maxRecDepth 100000 in
set_option maxHeartbeats 6400000 in
theorem show_21_n (f:ExprD→ByteArray) (x:ExprD) (ho:x.op=21) (ha:x.args≠[]) (hz:x.args.length≤8) (hk:∀ i (h:i<x.args.length),x.args[i].op≠30∧KidP f x.args[i])
 (w:World) (B N:Nat) (cs:List Value) (hN:N≤1048576) (hB:B≤w.heap.size) (hE:Env w) (hx:ExprD.At w B N x cs):Calls Tryz.prog 22 #[.agg cs.toArray] w (StrB (stepT f x) w):=by
 have HX:=Hd hx
 have HE:=Hd hE
 have HO:=Hd ho
 obtain ⟨aa,fa,ac,fc,vs,hh⟩:=hx.has
 have HC0:=Hd (show cs[0]?=some (.int .i64 21) by rw [← ho];exact hh.op)
 have hnm:=Hd (show x.name.size≤1048576 from Nat.le_trans hh.own.2.1 hN)
 obtain ⟨nm,hnm2⟩:∃ nm,x.name=nm:=⟨_,rfl⟩
 have znm:nm.size≤1048576:=by rw [← hnm2];exact hnm.out
 have HC1:=Hd (show cs[1]?=some (.string nm) by rw [← hnm2];exact hh.name)
 have HARG:=Hd hh.atArgs
 have HK:=Hd hk
 obtain ⟨n,hn⟩:∃ n,x.args.length=n:=⟨_,rfl⟩
 have HN:=Hd hn
 have hn0:0<n:=by rw [← hn];exact List.length_pos_iff.2 ha
 have HC15:=Hd (show cs[15]?=some (.slice aa n ac) by rw [← hn];exact hh.args)
 obtain ⟨w1,hw1⟩:∃ w1,w1=w.alloc (.cells cs.toArray 34):=⟨_,rfl⟩
 have HW:=Hd hw1
 have R0:=Hd (show RowT 34 w1 w.heap.size cs by rw [hw1];exact RowT.new w 34 cs)
 have H0:=Hd (show Below w.heap.size w w1 by rw [hw1];exact belowBox w _)
 have HKA:=Hd (show ∀ v,Below w.heap.size w v→B≤v.heap.size∧Env v∧ExprsAt v B N x.args aa from fun v hv=>⟨Nat.le_trans hB hv.size,HE.out.then hv,ExprsAt.below (hv.mono hB) _ HARG.out⟩)
 have e0:=R0.out.cell HC0.out
 have e1:=R0.out.cell HC1.out
 have e15:=R0.out.cell HC15.out
 rw [hw1] at e0 e1 e15
 obtain ⟨jn,hjn⟩:∃ jn,joinS ⟨#[59,32]⟩ (prsL f x.args)=jn:=⟨_,rfl⟩
 have HJN:=Hd hjn
 have zj:jn.size≤2199023255600:=by rw [← hjn];exact join_fit f x.args (fun i h _=>(hk i h).2.size) hz
 have HPA:=Hd (prsL_all f (l:=x.args) (fun a ha=>by obtain ⟨i,hi,rfl⟩:=List.getElem_of_mem ha;exact (hk i hi).1))
 have HZ:=Hd hz
 have HJ:=Hd (show ∀ v,Below w.heap.size w v→Calls Tryz.prog 59 #[.slice aa n ac] v (StrB jn v) from fun v hv=>by
  have h:=joined_p f x.args (fun i h _=>(HK.out i h).2) HZ.out aa ac v B N hN (HKA.out _ hv).1 (HKA.out _ hv).2.1 (HKA.out _ hv).2.2
  rwa [HN.out,HJN.out] at h)
 have n1:((n:Int)==0)=false:=by simp;omega
 have HR:=Hd (show stepT f x=nm++⟨#[40]⟩++jn++⟨#[41]⟩ by
  unfold stepT
  rw [HO.out]
  simp only [if_true,if_false,Int.reduceEq]
  rw [if_neg ha,hnm2,← HPA.out,hjn])
 clear hx hE hh ho hnm2 hw1 ha hz hk hn hjn
 go_enter Tryz.func22,Tryz.ntmps22
 go_wp2_with fail
 rw [← HW.out]
 refine wp_region_held_drew (S:=fun u=>Below w1.heap.size w1 u) (by kernel_rfl) (drewU w1) (fun hHeld=>?_)
 refine' tk 0 (.pointer (some ⟨w.heap.size,1,none⟩)) rfl rfl (.inl ⟨by rfl,fun u hu=>(by go_simp)⟩) hHeld ?_
 simp only [sq1,sq0]
 refine' tk 1 (.string nm) rfl rfl (.inl ⟨by rfl,fun u hu=>(by have hc:=(R0.out.then hu).cell HC1.out;go_simp)⟩) hHeld ?_
 simp only [sq1,sq0]
 refine' tk 2 (.string (nm++⟨#[40]⟩)) rfl rfl (.inl ⟨by rfl,fun u hu=>(by go_simp;all_goals omega)⟩) hHeld ?_
 simp only [sq1,sq0]
 refine' tk 3 (.pointer (some ⟨w.heap.size,15,none⟩)) rfl rfl (.inl ⟨by rfl,fun u hu=>(by go_simp)⟩) hHeld ?_
 simp only [sq1,sq0]
 refine' tk 4 (.slice aa n ac) rfl rfl (.inl ⟨by rfl,fun u hu=>(by have hc:=(R0.out.then hu).cell HC15.out;go_simp)⟩) hHeld ?_
 simp only [sq1,sq0]
 refine rd1 5 rfl (fun K hK=>?_)
 go_simp
 refine (HJ.out _ (belowThen H0.out hHeld)).mono ?_
 rintro e uC1 ⟨rfl,hbC⟩
 refine hK.out _ _ (belowThen hHeld hbC) (fun hHeld1=>?_)
 clear hK K hbC hHeld
 have hHeld:=hHeld1
 clear hHeld1
 refine' tk 6 (.string ((nm++⟨#[40]⟩)++jn)) rfl rfl (.inl ⟨by rfl,fun u hu=>(by go_simp;all_goals omega)⟩) hHeld ?_
 simp only [sq1,sq0]
 refine' tk 7 (.string (((nm++⟨#[40]⟩)++jn)++⟨#[41]⟩)) rfl rfl (.inl ⟨by rfl,fun u hu=>(by go_simp;all_goals omega)⟩) hHeld ?_
 simp only [sq1,sq0]
 refine rd1 8 rfl (fun K hK=>?_)
 go_simp
 refine hK.out _ _ hHeld (fun hHeldx=>?_)
 clear hK K hHeldx
 refine wpAnyH_done (by kernel_rfl) ?_ _
 go_wp2_with fail
 go_ret
 exact ⟨by rw [HR.out];rfl,belowThen H0.out hHeld⟩
end Go.Proofs.YtiefeajappjnbaaGreatDoor

/- qparse.show: maps, reduce and foreach (printed by genshd36.py). -/
namespace Go.Proofs.YtiefeajappjnbaaGreatDoor
open Go.RowKit
set_option maxRecDepth 100000 in
set_option maxHeartbeats 6400000 in
theorem show_25 (f:ExprD→ByteArray) (x:ExprD) (ho:x.op=25) (n:Nat) (hn:x.args.length=2 * n) (hz:x.args.length≤4096) (hk:∀ i (h:i<x.args.length),KidP f x.args[i]) (hy:∀ i (h:i<x.args.length),KeyP x.args[i]) (hfit:(joinS ⟨#[44,32]⟩ (pairsS f x.args)).size≤140737488355328)
 (w:World) (B N:Nat) (cs:List Value) (hN:N≤1048576) (hB:B≤w.heap.size) (hE:Env w) (hx:ExprD.At w B N x cs):Calls Tryz.prog 22 #[.agg cs.toArray] w (StrB (stepT f x) w):=by
 have HE:=Hd hE
 have HO:=Hd ho
 obtain ⟨aa,fa,ac,fc,vs,hh⟩:=hx.has
 have HC0:=Hd (show cs[0]?=some (.int .i64 25) by rw [← ho];exact hh.op)
 have HARG:=Hd hh.atArgs
 obtain ⟨q,hq⟩:∃ q,x.args.length=q:=⟨_,rfl⟩
 have HC15:=Hd (show cs[15]?=some (.slice aa q ac) by rw [← hq];exact hh.args)
 obtain ⟨w1,hw1⟩:∃ w1,w1=w.alloc (.cells cs.toArray 34):=⟨_,rfl⟩
 have HW:=Hd hw1
 have R0:=Hd (show RowT 34 w1 w.heap.size cs by rw [hw1];exact RowT.new w 34 cs)
 have H0:=Hd (show Below w.heap.size w w1 by rw [hw1];exact belowBox w _)
 have HJ:=Hd (show ∀ v,Below w.heap.size w v→Calls Tryz.prog 61 #[.slice aa q ac] v (StrB (⟨#[123]⟩++joinS ⟨#[44,32]⟩ (pairsS f x.args)++⟨#[125]⟩) v) from fun v hv=>by
  have h:=pairs_p f x.args n (Hd hn) hz hk hy hfit aa ac v B N hN (Nat.le_trans hB hv.size) (HE.out.then hv) (ExprsAt.below (hv.mono hB) _ HARG.out)
  rwa [hq] at h)
 have e0:=R0.out.cell HC0.out
 have e15:=R0.out.cell HC15.out
 rw [hw1] at e0 e15
 have HR:=Hd (show stepT f x=⟨#[123]⟩++joinS ⟨#[44,32]⟩ (pairsS f x.args)++⟨#[125]⟩ by
  unfold stepT
  rw [HO.out]
  simp only [if_true,if_false,Int.reduceEq])
 clear hx hE hh ho hw1 hn hz hk hy hfit hq
 go_enter Tryz.func22,Tryz.ntmps22
 go_wp2_with fail
 rw [← HW.out]
 refine (HJ.out _ H0.out).mono ?_
 rintro e wu ⟨rfl,hb1⟩
 have HU:=Hd (belowThen H0.out hb1)
 clear hb1
 go_wp2_with fail
 go_ret
 exact ⟨by rw [HR.out];rfl,HU.out⟩
set_option maxRecDepth 100000 in
set_option maxHeartbeats 6400000 in
theorem show_19 (f:ExprD→ByteArray) (x:ExprD) (ho:x.op=19) (hn:x.args.length=3) (k0:KidP f (x.args.getD 0 default)) (k1:KidP f (x.args.getD 1 default)) (k2:KidP f (x.args.getD 2 default))
 (w:World) (B N:Nat) (cs:List Value) (hN:N≤1048576) (hB:B≤w.heap.size) (hE:Env w) (hx:ExprD.At w B N x cs):Calls Tryz.prog 22 #[.agg cs.toArray] w (StrB (stepT f x) w):=by
 have HE:=Hd hE
 have HO:=Hd ho
 have K0:=Hd k0
 obtain ⟨aa,fa,ac,fc,vs,hh⟩:=hx.has
 have HC0:=Hd (show cs[0]?=some (.int .i64 19) by rw [← ho];exact hh.op)
 have hnm:=Hd (show x.name.size≤1048576 from Nat.le_trans hh.own.2.1 hN)
 obtain ⟨nm,hnm2⟩:∃ nm,x.name=nm:=⟨_,rfl⟩
 have znm:nm.size≤1048576:=by rw [← hnm2];exact hnm.out
 have HC1:=Hd (show cs[1]?=some (.string nm) by rw [← hnm2];exact hh.name)
 obtain ⟨b,o,haa,hb,hget⟩:=args_at hh (n:=3) hn (by decide)
 obtain ⟨c,rfl⟩:∃ c,ac=c+1:=⟨ac-1,by have:=hh.cap;omega⟩
 have hcap:3≤c+1:=by have:=hh.cap;omega
 have HC15:=Hd (show cs[15]?=some (.slice (some ⟨b,o,none⟩) 3 (c+1)) by rw [hh.args,hn,haa])
 obtain ⟨a0,r0,q0⟩:=hget 0 (by decide)
 have HR0:=Hd (show CellsAt w b o a0 by simpa using r0)
 have HQ0:=Hd q0
 have hl0:=Hd (show (Tryz.prog.info? 34).map (·.size)=some a0.length by rw [q0.len];kernel_rfl)
 obtain ⟨e0,e1,e2,hargs⟩:∃ e0 e1 e2,x.args=[e0,e1,e2]:=by
  match hm:x.args,hn with
  | [e0,e1,e2],_=>exact ⟨e0,e1,e2,rfl⟩
 have HAT:=Hd (show ExprsAt w B N [e1,e2] (some ⟨b,o+17,none⟩) by
  have h:=hh.atArgs
  rw [hargs,haa] at h
  exact h.2)
 rw [hargs] at k0 k1 k2 K0 HQ0
 obtain ⟨w1,hw1⟩:∃ w1,w1=w.alloc (.cells cs.toArray 34):=⟨_,rfl⟩
 have HW:=Hd hw1
 have R0:=Hd (show RowT 34 w1 w.heap.size cs by rw [hw1];exact RowT.new w 34 cs)
 have H0:=Hd (show Below w.heap.size w w1 by rw [hw1];exact belowBox w _)
 have HKA:=Hd (show ∀ v,Below w.heap.size w v→B≤v.heap.size∧Env v∧ExprD.At v B N e0 a0∧ExprsAt v B N [e1,e2] (some ⟨b,o+17,none⟩) from fun v hv=>⟨Nat.le_trans hB hv.size,HE.out.then hv,HQ0.out.below (hv.mono hB),ExprsAt.below (hv.mono hB) _ HAT.out⟩)
 have HKT:=Hd (show ∀ i (h:i<[e1,e2].length),[e1,e2][i].op≠30→KidP f [e1,e2][i] from fun i h h3=>by
  match i,h,h3 with
  | 0,_,h3=>exact k1
  | 1,_,h3=>exact k2)
 obtain ⟨jn,hjn⟩:∃ jn,joinS ⟨#[59,32]⟩ (prsL f [e1,e2])=jn:=⟨_,rfl⟩
 have HJN:=Hd hjn
 have zj:jn.size≤2199023255600:=by rw [← hjn];exact join_fit f [e1,e2] (fun i h h3=>(HKT.out i h h3).size) (by simp)
 have HJ:=Hd (show ∀ v,Below w.heap.size w v→Calls Tryz.prog 59 #[.slice (some ⟨b,o+17,none⟩) 2 c] v (StrB jn v) from fun v hv=>by
  have h:=joined_p f [e1,e2] HKT.out (by simp) (some ⟨b,o+17,none⟩) c v B N hN (HKA.out _ hv).1 (HKA.out _ hv).2.1 (HKA.out _ hv).2.2.2
  rwa [HJN.out] at h)
 have e0':=R0.out.cell HC0.out
 have e1':=R0.out.cell HC1.out
 have e15:=R0.out.cell HC15.out
 rw [hw1] at e0' e1' e15
 obtain ⟨s0,hs0⟩:∃ z,atS f 10 e0=z:=⟨_,rfl⟩
 have HS0:=Hd hs0
 have zs0:s0.size≤274877906946:=by rw [← hs0];exact Nat.le_trans (atS_le f _ _) (Nat.add_le_add_right K0.out.size 2)
 have o1:e1.op≠30:=by have:=k1.op.2;show e1.op≠30;intro h;have h2:e1.op≤29:=this;omega
 have o2:e2.op≠30:=by have:=k2.op.2;show e2.op≠30;intro h;have h2:e2.op≤29:=this;omega
 have HR:=Hd (show stepT f x=⟨#[114,101,100,117,99,101,32]⟩++s0++⟨#[32,97,115,32,36]⟩++nm++⟨#[32,40]⟩++jn++⟨#[41]⟩ by
  unfold stepT
  rw [HO.out]
  simp only [if_true,if_false,Int.reduceEq]
  rw [hargs,hnm2,← hjn,← hs0]
  show ⟨#[114,101,100,117,99,101,32]⟩++atS f 10 e0++⟨#[32,97,115,32,36]⟩++nm++⟨#[32,40]⟩++f e1++⟨#[59,32]⟩++f e2++⟨#[41]⟩=_
  rw [show prsL f [e1,e2]=[f e1,f e2] by simp [prsL,o1,o2]]
  simp only [joinS,ByteArray.append_assoc])
 clear hx hE hh ho hnm2 hw1 hn haa hget k0 k1 k2 hargs hjn hs0 o1 o2
 go_enter Tryz.func22,Tryz.ntmps22
 go_wp2_with fail
 rw [← HW.out]
 refine wp_region_held_drew (S:=fun u=>Below w1.heap.size w1 u) (by kernel_rfl) (drewU w1) (fun hHeld=>?_)
 refine' tk 0 (.string ⟨#[114,101,100,117,99,101,32]⟩) rfl rfl (.inl ⟨by rfl,fun u hu=>(by go_simp)⟩) hHeld ?_
 simp only [sq1,sq0]
 refine' tk 1 (.pointer (some ⟨w.heap.size,15,none⟩)) rfl rfl (.inl ⟨by rfl,fun u hu=>(by go_simp)⟩) hHeld ?_
 simp only [sq1,sq0]
 refine' tk 2 (.slice (some ⟨b,o,none⟩) 3 (c+1)) rfl rfl (.inl ⟨by rfl,fun u hu=>(by have hc:=(R0.out.then hu).cell HC15.out;go_simp)⟩) hHeld ?_
 simp only [sq1,sq0]
 refine' tk 3 (.pointer (some ⟨b,o,none⟩)) rfl rfl (.inl ⟨by rfl,fun u hu=>(by go_simp)⟩) hHeld ?_
 simp only [sq1,sq0]
 refine' tk 4 _ rfl rfl (yieldsIf_load_mid (by kernel_rfl) 34 _ rfl (b) (o) rfl a0 _ (fun u hu=>(HR0.out.below ((belowThen H0.out hu).mono hB) hb).range) Tryz.underlying34 rfl hl0.out) hHeld ?_
 simp only [sq1,sq0]
 refine' tk 8 (.pointer (some ⟨w.heap.size,1,none⟩)) rfl rfl (.inl ⟨by rfl,fun u hu=>(by go_simp)⟩) hHeld ?_
 simp only [sq1,sq0]
 refine' tk 9 (.string nm) rfl rfl (.inl ⟨by rfl,fun u hu=>(by have hc:=(R0.out.then hu).cell HC1.out;go_simp)⟩) hHeld ?_
 simp only [sq1,sq0]
 refine' tk 12 (.pointer (some ⟨w.heap.size,15,none⟩)) rfl rfl (.inl ⟨by rfl,fun u hu=>(by go_simp)⟩) hHeld ?_
 simp only [sq1,sq0]
 refine' tk 13 (.slice (some ⟨b,o,none⟩) 3 (c+1)) rfl rfl (.inl ⟨by rfl,fun u hu=>(by have hc:=(R0.out.then hu).cell HC15.out;go_simp)⟩) hHeld ?_
 simp only [sq1,sq0]
 refine' tk 14 (.slice (some ⟨b,o+17,none⟩) 2 c) rfl rfl (.inl ⟨by rfl,fun u hu=>(by go_simp;all_goals omega)⟩) hHeld ?_
 simp only [sq1,sq0]
 refine rd1 5 rfl (fun K hK=>?_)
 go_simp
 refine (arg_p f _ K0.out 10 _ B N a0 hN (HKA.out _ (belowThen H0.out hHeld)).1 (HKA.out _ (belowThen H0.out hHeld)).2.1 (HKA.out _ (belowThen H0.out hHeld)).2.2.1).mono ?_
 rw [show atS f 10 ([e0,e1,e2].getD 0 default)=s0 from HS0.out]
 rintro e uC1 ⟨rfl,hbC⟩
 refine hK.out _ _ (belowThen hHeld hbC) (fun hHeld1=>?_)
 clear hK K hbC hHeld
 have hHeld:=hHeld1
 clear hHeld1
 refine' tk 6 (.string (⟨#[114,101,100,117,99,101,32]⟩++s0)) rfl rfl (.inl ⟨by rfl,fun u hu=>(by go_simp;all_goals omega)⟩) hHeld ?_
 simp only [sq1,sq0]
 refine' tk 7 (.string ((⟨#[114,101,100,117,99,101,32]⟩++s0)++⟨#[32,97,115,32,36]⟩)) rfl rfl (.inl ⟨by rfl,fun u hu=>(by go_simp;all_goals omega)⟩) hHeld ?_
 simp only [sq1,sq0]
 refine' tk 10 (.string (((⟨#[114,101,100,117,99,101,32]⟩++s0)++⟨#[32,97,115,32,36]⟩)++nm)) rfl rfl (.inl ⟨by rfl,fun u hu=>(by go_simp;all_goals omega)⟩) hHeld ?_
 simp only [sq1,sq0]
 refine' tk 11 (.string ((((⟨#[114,101,100,117,99,101,32]⟩++s0)++⟨#[32,97,115,32,36]⟩)++nm)++⟨#[32,40]⟩)) rfl rfl (.inl ⟨by rfl,fun u hu=>(by go_simp;all_goals omega)⟩) hHeld ?_
 simp only [sq1,sq0]
 refine rd1 15 rfl (fun K hK=>?_)
 go_simp
 refine (HJ.out _ (belowThen H0.out hHeld)).mono ?_
 rintro e uC2 ⟨rfl,hbC⟩
 refine hK.out _ _ (belowThen hHeld hbC) (fun hHeld2=>?_)
 clear hK K hbC hHeld
 have hHeld:=hHeld2
 clear hHeld2
 refine' tk 16 (.string (((((⟨#[114,101,100,117,99,101,32]⟩++s0)++⟨#[32,97,115,32,36]⟩)++nm)++⟨#[32,40]⟩)++jn)) rfl rfl (.inl ⟨by rfl,fun u hu=>(by go_simp;all_goals omega)⟩) hHeld ?_
 simp only [sq1,sq0]
 refine' tk 17 (.string ((((((⟨#[114,101,100,117,99,101,32]⟩++s0)++⟨#[32,97,115,32,36]⟩)++nm)++⟨#[32,40]⟩)++jn)++⟨#[41]⟩)) rfl rfl (.inl ⟨by rfl,fun u hu=>(by go_simp;all_goals omega)⟩) hHeld ?_
 simp only [sq1,sq0]
 refine rd1 18 rfl (fun K hK=>?_)
 go_simp
 refine hK.out _ _ hHeld (fun hHeldx=>?_)
 clear hK K hHeldx
 refine wpAnyH_done (by kernel_rfl) ?_ _
 go_wp2_with fail
 go_ret
 exact ⟨by rw [HR.out];rfl,belowThen H0.out hHeld⟩
set_option maxRecDepth 100000 in
set_option maxHeartbeats 6400000 in
theorem show_20 (f:ExprD→ByteArray) (x:ExprD) (ho:x.op=20) (hn:x.args.length=4) (k0:KidP f (x.args.getD 0 default)) (k1:KidP f (x.args.getD 1 default)) (k2:KidP f (x.args.getD 2 default)) (k3:(x.args.getD 3 default).op≠30→KidP f (x.args.getD 3 default))
 (w:World) (B N:Nat) (cs:List Value) (hN:N≤1048576) (hB:B≤w.heap.size) (hE:Env w) (hx:ExprD.At w B N x cs):Calls Tryz.prog 22 #[.agg cs.toArray] w (StrB (stepT f x) w):=by
 have HE:=Hd hE
 have HO:=Hd ho
 have K0:=Hd k0
 obtain ⟨aa,fa,ac,fc,vs,hh⟩:=hx.has
 have HC0:=Hd (show cs[0]?=some (.int .i64 20) by rw [← ho];exact hh.op)
 have hnm:=Hd (show x.name.size≤1048576 from Nat.le_trans hh.own.2.1 hN)
 obtain ⟨nm,hnm2⟩:∃ nm,x.name=nm:=⟨_,rfl⟩
 have znm:nm.size≤1048576:=by rw [← hnm2];exact hnm.out
 have HC1:=Hd (show cs[1]?=some (.string nm) by rw [← hnm2];exact hh.name)
 obtain ⟨b,o,haa,hb,hget⟩:=args_at hh (n:=4) hn (by decide)
 obtain ⟨c,rfl⟩:∃ c,ac=c+1:=⟨ac-1,by have:=hh.cap;omega⟩
 have hcap:4≤c+1:=by have:=hh.cap;omega
 have HC15:=Hd (show cs[15]?=some (.slice (some ⟨b,o,none⟩) 4 (c+1)) by rw [hh.args,hn,haa])
 obtain ⟨a0,r0,q0⟩:=hget 0 (by decide)
 have HR0:=Hd (show CellsAt w b o a0 by simpa using r0)
 have HQ0:=Hd q0
 have hl0:=Hd (show (Tryz.prog.info? 34).map (·.size)=some a0.length by rw [q0.len];kernel_rfl)
 obtain ⟨e0,e1,e2,e3,hargs⟩:∃ e0 e1 e2 e3,x.args=[e0,e1,e2,e3]:=by
  match hm:x.args,hn with
  | [e0,e1,e2,e3],_=>exact ⟨e0,e1,e2,e3,rfl⟩
 have HAT:=Hd (show ExprsAt w B N [e1,e2,e3] (some ⟨b,o+17,none⟩) by
  have h:=hh.atArgs
  rw [hargs,haa] at h
  exact h.2)
 rw [hargs] at k0 k1 k2 k3 K0 HQ0
 obtain ⟨w1,hw1⟩:∃ w1,w1=w.alloc (.cells cs.toArray 34):=⟨_,rfl⟩
 have HW:=Hd hw1
 have R0:=Hd (show RowT 34 w1 w.heap.size cs by rw [hw1];exact RowT.new w 34 cs)
 have H0:=Hd (show Below w.heap.size w w1 by rw [hw1];exact belowBox w _)
 have HKA:=Hd (show ∀ v,Below w.heap.size w v→B≤v.heap.size∧Env v∧ExprD.At v B N e0 a0∧ExprsAt v B N [e1,e2,e3] (some ⟨b,o+17,none⟩) from fun v hv=>⟨Nat.le_trans hB hv.size,HE.out.then hv,HQ0.out.below (hv.mono hB),ExprsAt.below (hv.mono hB) _ HAT.out⟩)
 have HKT:=Hd (show ∀ i (h:i<[e1,e2,e3].length),[e1,e2,e3][i].op≠30→KidP f [e1,e2,e3][i] from fun i h h3=>by
  match i,h,h3 with
  | 0,_,h3=>exact k1
  | 1,_,h3=>exact k2
  | 2,_,h3=>exact k3 h3)
 obtain ⟨jn,hjn⟩:∃ jn,joinS ⟨#[59,32]⟩ (prsL f [e1,e2,e3])=jn:=⟨_,rfl⟩
 have HJN:=Hd hjn
 have zj:jn.size≤2199023255600:=by rw [← hjn];exact join_fit f [e1,e2,e3] (fun i h h3=>(HKT.out i h h3).size) (by simp)
 have HJ:=Hd (show ∀ v,Below w.heap.size w v→Calls Tryz.prog 59 #[.slice (some ⟨b,o+17,none⟩) 3 c] v (StrB jn v) from fun v hv=>by
  have h:=joined_p f [e1,e2,e3] HKT.out (by simp) (some ⟨b,o+17,none⟩) c v B N hN (HKA.out _ hv).1 (HKA.out _ hv).2.1 (HKA.out _ hv).2.2.2
  rwa [HJN.out] at h)
 have e0':=R0.out.cell HC0.out
 have e1':=R0.out.cell HC1.out
 have e15:=R0.out.cell HC15.out
 rw [hw1] at e0' e1' e15
 obtain ⟨s0,hs0⟩:∃ z,atS f 10 e0=z:=⟨_,rfl⟩
 have HS0:=Hd hs0
 have zs0:s0.size≤274877906946:=by rw [← hs0];exact Nat.le_trans (atS_le f _ _) (Nat.add_le_add_right K0.out.size 2)
 have o1:e1.op≠30:=by have:=k1.op.2;show e1.op≠30;intro h;have h2:e1.op≤29:=this;omega
 have o2:e2.op≠30:=by have:=k2.op.2;show e2.op≠30;intro h;have h2:e2.op≤29:=this;omega
 have HR:=Hd (show stepT f x=⟨#[102,111,114,101,97,99,104,32]⟩++s0++⟨#[32,97,115,32,36]⟩++nm++⟨#[32,40]⟩++jn++⟨#[41]⟩ by
  unfold stepT
  rw [HO.out]
  simp only [if_true,if_false,Int.reduceEq]
  rw [hargs,hnm2,← hjn,← hs0]
  show ⟨#[102,111,114,101,97,99,104,32]⟩++atS f 10 e0++⟨#[32,97,115,32,36]⟩++nm++⟨#[32,40]⟩++f e1++⟨#[59,32]⟩++f e2++(if e3.op=30 then ⟨#[]⟩ else ⟨#[59,32]⟩++f e3)++⟨#[41]⟩=_
  by_cases o3:e3.op=30
  ·rw [if_pos o3,show prsL f [e1,e2,e3]=[f e1,f e2] by simp [prsL,o1,o2,o3],empty_mid]
   simp only [joinS,ByteArray.append_assoc]
  ·rw [if_neg o3,show prsL f [e1,e2,e3]=[f e1,f e2,f e3] by simp [prsL,o1,o2,o3]]
   simp only [joinS,ByteArray.append_assoc])
 clear hx hE hh ho hnm2 hw1 hn haa hget k0 k1 k2 k3 hargs hjn hs0 o1 o2
 go_enter Tryz.func22,Tryz.ntmps22
 go_wp2_with fail
 rw [← HW.out]
 refine wp_region_held_drew (S:=fun u=>Below w1.heap.size w1 u) (by kernel_rfl) (drewU w1) (fun hHeld=>?_)
 refine' tk 0 (.string ⟨#[102,111,114,101,97,99,104,32]⟩) rfl rfl (.inl ⟨by rfl,fun u hu=>(by go_simp)⟩) hHeld ?_
 simp only [sq1,sq0]
 refine' tk 1 (.pointer (some ⟨w.heap.size,15,none⟩)) rfl rfl (.inl ⟨by rfl,fun u hu=>(by go_simp)⟩) hHeld ?_
 simp only [sq1,sq0]
 refine' tk 2 (.slice (some ⟨b,o,none⟩) 4 (c+1)) rfl rfl (.inl ⟨by rfl,fun u hu=>(by have hc:=(R0.out.then hu).cell HC15.out;go_simp)⟩) hHeld ?_
 simp only [sq1,sq0]
 refine' tk 3 (.pointer (some ⟨b,o,none⟩)) rfl rfl (.inl ⟨by rfl,fun u hu=>(by go_simp)⟩) hHeld ?_
 simp only [sq1,sq0]
 refine' tk 4 _ rfl rfl (yieldsIf_load_mid (by kernel_rfl) 34 _ rfl (b) (o) rfl a0 _ (fun u hu=>(HR0.out.below ((belowThen H0.out hu).mono hB) hb).range) Tryz.underlying34 rfl hl0.out) hHeld ?_
 simp only [sq1,sq0]
 refine' tk 8 (.pointer (some ⟨w.heap.size,1,none⟩)) rfl rfl (.inl ⟨by rfl,fun u hu=>(by go_simp)⟩) hHeld ?_
 simp only [sq1,sq0]
 refine' tk 9 (.string nm) rfl rfl (.inl ⟨by rfl,fun u hu=>(by have hc:=(R0.out.then hu).cell HC1.out;go_simp)⟩) hHeld ?_
 simp only [sq1,sq0]
 refine' tk 12 (.pointer (some ⟨w.heap.size,15,none⟩)) rfl rfl (.inl ⟨by rfl,fun u hu=>(by go_simp)⟩) hHeld ?_
 simp only [sq1,sq0]
 refine' tk 13 (.slice (some ⟨b,o,none⟩) 4 (c+1)) rfl rfl (.inl ⟨by rfl,fun u hu=>(by have hc:=(R0.out.then hu).cell HC15.out;go_simp)⟩) hHeld ?_
 simp only [sq1,sq0]
 refine' tk 14 (.slice (some ⟨b,o+17,none⟩) 3 c) rfl rfl (.inl ⟨by rfl,fun u hu=>(by go_simp;all_goals omega)⟩) hHeld ?_
 simp only [sq1,sq0]
 refine rd1 5 rfl (fun K hK=>?_)
 go_simp
 refine (arg_p f _ K0.out 10 _ B N a0 hN (HKA.out _ (belowThen H0.out hHeld)).1 (HKA.out _ (belowThen H0.out hHeld)).2.1 (HKA.out _ (belowThen H0.out hHeld)).2.2.1).mono ?_
 rw [show atS f 10 ([e0,e1,e2,e3].getD 0 default)=s0 from HS0.out]
 rintro e uC1 ⟨rfl,hbC⟩
 refine hK.out _ _ (belowThen hHeld hbC) (fun hHeld1=>?_)
 clear hK K hbC hHeld
 have hHeld:=hHeld1
 clear hHeld1
 refine' tk 6 (.string (⟨#[102,111,114,101,97,99,104,32]⟩++s0)) rfl rfl (.inl ⟨by rfl,fun u hu=>(by go_simp;all_goals omega)⟩) hHeld ?_
 simp only [sq1,sq0]
 refine' tk 7 (.string ((⟨#[102,111,114,101,97,99,104,32]⟩++s0)++⟨#[32,97,115,32,36]⟩)) rfl rfl (.inl ⟨by rfl,fun u hu=>(by go_simp;all_goals omega)⟩) hHeld ?_
 simp only [sq1,sq0]
 refine' tk 10 (.string (((⟨#[102,111,114,101,97,99,104,32]⟩++s0)++⟨#[32,97,115,32,36]⟩)++nm)) rfl rfl (.inl ⟨by rfl,fun u hu=>(by go_simp;all_goals omega)⟩) hHeld ?_
 simp only [sq1,sq0]
 refine' tk 11 (.string ((((⟨#[102,111,114,101,97,99,104,32]⟩++s0)++⟨#[32,97,115,32,36]⟩)++nm)++⟨#[32,40]⟩)) rfl rfl (.inl ⟨by rfl,fun u hu=>(by go_simp;all_goals omega)⟩) hHeld ?_
 simp only [sq1,sq0]
 refine rd1 15 rfl (fun K hK=>?_)
 go_simp
 refine (HJ.out _ (belowThen H0.out hHeld)).mono ?_
 rintro e uC2 ⟨rfl,hbC⟩
 refine hK.out _ _ (belowThen hHeld hbC) (fun hHeld2=>?_)
 clear hK K hbC hHeld
 have hHeld:=hHeld2
 clear hHeld2
 refine' tk 16 (.string (((((⟨#[102,111,114,101,97,99,104,32]⟩++s0)++⟨#[32,97,115,32,36]⟩)++nm)++⟨#[32,40]⟩)++jn)) rfl rfl (.inl ⟨by rfl,fun u hu=>(by go_simp;all_goals omega)⟩) hHeld ?_
 simp only [sq1,sq0]
 refine' tk 17 (.string ((((((⟨#[102,111,114,101,97,99,104,32]⟩++s0)++⟨#[32,97,115,32,36]⟩)++nm)++⟨#[32,40]⟩)++jn)++⟨#[41]⟩)) rfl rfl (.inl ⟨by rfl,fun u hu=>(by go_simp;all_goals omega)⟩) hHeld ?_
 simp only [sq1,sq0]
 refine rd1 18 rfl (fun K hK=>?_)
 go_simp
 refine hK.out _ _ hHeld (fun hHeldx=>?_)
 clear hK K hHeldx
 refine wpAnyH_done (by kernel_rfl) ?_ _
 go_wp2_with fail
 go_ret
 exact ⟨by rw [HR.out];rfl,belowThen H0.out hHeld⟩
end Go.Proofs.YtiefeajappjnbaaGreatDoor

/- qparse.show: definitions. -/
namespace Go.Proofs.YtiefeajappjnbaaGreatDoor
open Go.RowKit
theorem defsS_app (f:ExprD→ByteArray):∀ (a b:List FuncD),defsS f (a++b)=defsS f a++defsS f b
 | [],b=>by
   apply ByteArray.ext
   simp [defsS]
 | x::r,b=>by
   rw [List.cons_append,defsS,defsS,defsS_app f r b]
   simp only [ByteArray.append_assoc]
theorem defsS_step (f:ExprD→ByteArray) (l:List FuncD) {k:Nat} (h:k<l.length):defsS f (l.take (k+1))=defsS f (l.take k)++(defS f l[k]++⟨#[32]⟩):=by
 rw [← List.take_append_getElem h,defsS_app]
 congr 1
 apply ByteArray.ext
 simp [defsS]
theorem defsS_part (f:ExprD→ByteArray) (l:List FuncD) (k:Nat):(defsS f (l.take k)).size≤(defsS f l).size:=by
 have h:=congrArg ByteArray.size (defsS_app f (l.take k) (l.drop k))
 rw [List.take_append_drop,ByteArray.size_append] at h
 omega
theorem defsS_len (f:ExprD→ByteArray):∀ l:List FuncD,l.length≤(defsS f l).size
 | []=>by simp
 | x::r=>by
   rw [defsS,List.length_cons]
   have h:=defsS_len f r
   have z:(⟨#[32]⟩:ByteArray).size=1:=rfl
   (repeat rw [ByteArray.size_append])
   rw [z]
   omega
set_option maxRecDepth 100000 in
set_option maxHeartbeats 6400000 in
theorem show_23 (f:ExprD→ByteArray) (x:ExprD) (ho:x.op=23) (hn:x.args.length=1) (hz:∀ u∈x.funcs,u.params.length≤8) (hk:∀ i (h:i<x.funcs.length),KidP f x.funcs[i].body) (hfit:(defsS f x.funcs).size≤549755813888) (k0:ShwP f (x.args.getD 0 default)) (kz:(f (x.args.getD 0 default)).size≤274877906944)
 (w:World) (B N:Nat) (cs:List Value) (hN:N≤1048576) (hB:B≤w.heap.size) (hE:Env w) (hx:ExprD.At w B N x cs):Calls Tryz.prog 22 #[.agg cs.toArray] w (StrB (stepT f x) w):=by
 have HX:=Hd hx
 have HE:=Hd hE
 have HO:=Hd ho
 have HK:=Hd hk
 have HZ:=Hd hz
 have K0:=Hd k0
 have KZ:=Hd kz
 have HFIT:=Hd hfit
 obtain ⟨aa,fa,ac,fc,vs,hh⟩:=hx.has
 have HC0:=Hd (show cs[0]?=some (.int .i64 23) by rw [← ho];exact hh.op)
 have HFN:=Hd hh.atFuncs
 obtain ⟨b,o,haa,hb,hget⟩:=args_at hh (n:=1) hn (by decide)
 have HC15:=Hd (show cs[15]?=some (.slice (some ⟨b,o,none⟩) 1 ac) by rw [hh.args,hn,haa])
 obtain ⟨l,hl0⟩:∃ l,x.funcs=l:=⟨_,rfl⟩
 have HL:=Hd hl0
 have HC16:=Hd (show cs[16]?=some (.slice fa l.length fc) by rw [← hl0];exact hh.funcs)
 rw [hl0] at HFN HK HZ HFIT
 obtain ⟨a0,r0,q0⟩:=hget 0 (by decide)
 have HR0:=Hd (show CellsAt w b o a0 by simpa using r0)
 have HQ0:=Hd q0
 have hla:=Hd (show (Tryz.prog.info? 34).map (·.size)=some a0.length by rw [q0.len];kernel_rfl)
 have R0:=Hd (RowT.new w 34 cs)
 have H0:=Hd (belowBox w (.cells cs.toArray 34))
 have e0:=R0.out.cell HC0.out
 have e15:=R0.out.cell HC15.out
 have e16:=R0.out.cell HC16.out
 obtain ⟨sb,hsb⟩:∃ sb,bodyS f (x.args.getD 0 default)=sb:=⟨_,rfl⟩
 have HSB:=Hd hsb
 have zb:sb.size≤274877906946:=by
  rw [← hsb]
  exact Nat.le_trans (bodyS_size f _) (Nat.add_le_add_right kz 2)
 have HR:=Hd (show stepT f x=defsS f l++sb by
  unfold stepT
  rw [HO.out]
  simp only [if_true,if_false,Int.reduceEq]
  rw [hsb,hl0])
 have HS0:=Hd (show w.heap.size<(w.alloc (.cells cs.toArray 34)).heap.size by rw [World.size_alloc];omega)
 clear hx hE hh ho hk hz k0 kz hfit hn haa hget r0 q0 hl0 hsb
 go_enter Tryz.func22,Tryz.ntmps22
 go_wp2_with fail
 go_simp
 have zl:l.length≤549755813888:=Nat.le_trans (defsS_len f l) HFIT.out
 go_loopw [5,177] (fun v i wr=>∃ (k:Nat) (t:ByteArray),k≤l.length∧i=.int .i64 k∧v=.string t∧Hid (t=defsS f (l.take k))∧Hid (RowT 34 wr w.heap.size cs)∧Hid (Below w.heap.size w wr)) (fun _ i _=>l.length-(intOf i).toNat)
 case atStart=>exact ⟨0,⟨#[]⟩,by omega,rfl,rfl,Hd rfl,R0,H0⟩
 case round =>
  clear e0 e15 e16 R0
  obtain ⟨k,t,hkl,rfl,rfl,HT,HRr,HBr⟩:=hrel
  have e0:=HRr.out.cell HC0.out
  have e15:=HRr.out.cell HC15.out
  have e16:=HRr.out.cell HC16.out
  have zt:t.size≤549755813888:=by rw [HT.out];exact Nat.le_trans (defsS_part f l k) HFIT.out
  by_cases hlt:k<l.length
  case neg =>
   obtain rfl:k=l.length:=by omega
   have HTE:=Hd (show t=defsS f l by have h:=HT.out;rwa [List.take_length] at h)
   have sc1:t.size+sb.size≤9223372036854775807:=by omega
   go_wp2_with ((with_reducible show wpList _ _ _ (⟨some 191,_,_,_,_,_⟩::_) _ _);refine wpList_load_mid rfl 34 _ rfl b o rfl a0 _ (HR0.out.below (HBr.out.mono hB) hb).range Tryz.underlying34 rfl hla.out ?_)
   refine (guarded_p f _ K0.out KZ.out _ B N a0 hN (Nat.le_trans hB HBr.out.size) (HE.out.then HBr.out) (HQ0.out.below (HBr.out.mono hB))).mono ?_
   rw [HSB.out]
   rintro e w2 ⟨rfl,hb2⟩
   have H2:=Hd (belowThen HBr.out hb2)
   clear hb2
   go_wp2_with fail
   go_ret
   exact ⟨by rw [HR.out,← HTE.out];rfl,H2.out⟩
  obtain ⟨b2,o2,rfl,hb2,hget2⟩:=HFN.out.get (by intro h;rw [h] at hlt;simp at hlt)
  obtain ⟨fs,g1,g2⟩:=hget2 k hlt
  have hlf:=Hd (show (Tryz.prog.info? 72).map (·.size)=some fs.length by rw [g2.len];kernel_rfl)
  have hlf2:=Hd (show (Tryz.prog.info? 72).map (·.size)=some fs.toArray.size by rw [List.size_toArray,g2.len];kernel_rfl)
  have h19:=Hd (show 19=fs.toArray.size by rw [List.size_toArray,g2.len])
  have hone:=Hd (show fs.toArray.all (·.oneCell')=true by obtain ⟨_,_,_,gh⟩:=g2.has;exact Go.all_oneCell_toArray gh.one)
  have HFR:=Hd (g1.below (HBr.out.mono hB) hb2)
  have HB1:=Hd (show Below w.heap.size w (wr.alloc (.cells fs.toArray 72)) from belowThen HBr.out (belowBox wr _))
  have HQF:=Hd (show ∀ u,Below w.heap.size w u→FuncD.At u B N l[k] fs from fun u hu=>FuncD.At.below (hu.mono hB) _ g2)
  have HBX:=Hd (RowT.new wr 72 fs)
  have HR1:=Hd (HRr.out.alloc (.cells fs.toArray 72))
  obtain ⟨d,hd⟩:∃ d,defS f l[k]=d:=⟨_,rfl⟩
  have HD:=Hd hd
  have HSTP:=Hd (show defsS f (l.take (k+1))=t++(d++⟨#[32]⟩) by rw [defsS_step f l hlt,← HT.out,hd])
  have zt2:(t++(d++⟨#[32]⟩)).size≤549755813888:=by rw [← HSTP.out];exact Nat.le_trans (defsS_part f l (k+1)) HFIT.out
  have zt3:=zt2
  rw [ByteArray.size_append,ByteArray.size_append] at zt3
  have zt4:(⟨#[32]⟩:ByteArray).size=1:=rfl
  rw [zt4] at zt3
  have sc1:d.size+(⟨#[32]⟩:ByteArray).size≤9223372036854775807:=by rw [zt4];omega
  have sc2:t.size+(d++⟨#[32]⟩).size≤9223372036854775807:=by rw [ByteArray.size_append,zt4];omega
  have HP8:=Hd (HZ.out _ (List.getElem_mem hlt))
  have HKK:=Hd (HK.out k hlt)
  clear g1 g2 hget2 hd zt2 zt3 zt4
  go_wp2_with (first
   | ((with_reducible show wpList _ _ _ (⟨some 180,_,_,_,_,_⟩::_) _ _);refine wpList_load_mid rfl 72 _ rfl b2 (o2+k * 19) rfl fs _ HFR.out.range Tryz.underlying72 rfl hlf.out ?_)
   | ((with_reducible show wpList _ _ _ (⟨none,.store 72 (.tmp 7) (.tmp 180),_,_,_,_⟩::_) _ _);refine wpList_store_new rfl 72 _ _ rfl _ fs.toArray rfl rfl hlf2.out h19.out hone.out ?_)
   | ((with_reducible show wpList _ _ _ (⟨some 182,_,_,_,_,_⟩::_) _ _);refine wpList_load_mid rfl 72 _ rfl wr.heap.size 0 rfl fs _ HBX.out.range Tryz.underlying72 rfl hlf.out ?_))
  refine (define_p f l[k] HKK.out HP8.out _ B N fs hN (Nat.le_trans hB HB1.out.size) (HE.out.then HB1.out) (HQF.out _ HB1.out)).mono ?_
  rw [HD.out]
  rintro e w3 ⟨rfl,hb3⟩
  have HB3:=Hd (belowThen HB1.out hb3)
  have HR3:=Hd (HR1.out.then hb3)
  clear hb3
  go_wp2_with fail
  go_roundw
  case rel=>exact ⟨k+1,_,by omega,by go_num,rfl,Hd HSTP.out.symm,HR3,HB3⟩
  case measure=>simp [intOf];omega
end Go.Proofs.YtiefeajappjnbaaGreatDoor
