/- moment.Text (printed by gentim41.py). -/
import Derived.Test.YtniljgkkcnekgaaGreatDoorProg
import Derived.Test.YtniljgkkcnekgaaGreatDoorGA
import Derived.Test.YtniljgkkcnekgaaGreatDoorGB
import Derived.Test.YtniljgkkcnekgaaGreatDoorGF
import Derived.Test.YtniljgkkcnekgaaGreatDoorGH
import Derived.Test.YtniljgkkcnekgaaGreatDoorGC
import Derived.Test.YtniljgkkcnekgaaGreatDoorGZ
import Derived.Test.YtniljgkkcnekgaaGreatDoorGT
import Derived.Test.YtniljgkkcnekgaaGreatDoorTiw41
namespace Go.Proofs.YtniljgkkcnekgaaGreatDoor
open Go.RowKit
set_option maxRecDepth 100000 in
set_option maxHeartbeats 12800000 in
theorem ttext_p (t:TimeD) (hv:vtimeB t=true) (w:World):Calls Tryz.prog 88 #[.agg #[.int .i64 t.kind,.int .i64 t.day,.int .i64 t.nano,.int .i64 t.offset]] w (StrB (timeS t) w):=by
 have HV:=Hd (fun u=>@momentValid t u)
 rw [hv] at HV
 have hq:=(vtimeB_iff t).1 hv
 obtain ⟨k,d,n,o⟩:=t
 obtain ⟨k1,k2,d1,d2,n1,n2,o1,o2,k3,k4,k5⟩:=hq
 replace k1:1≤k:=k1
 replace k2:k≤4:=k2
 replace d1:0≤d:=d1
 replace d2:d≤3652058:=d2
 replace n1:0≤n:=n1
 replace n2:n≤86399999999999:=n2
 replace o1:-1439≤o:=o1
 replace o2:o≤1439:=o2
 obtain ⟨dn,rfl⟩:=Int.eq_ofNat_of_zero_le d1
 obtain ⟨nn,rfl⟩:=Int.eq_ofNat_of_zero_le n1
 have hdn:dn≤3652058:=by omega
 have hnn:nn≤86399999999999:=by omega
 have HK1:=Hd (show k=1→timeS ⟨k,(dn:Int),(nn:Int),o⟩=dateS dn from fun h=>by unfold timeS;rw [if_pos h];rfl)
 have HK2:=Hd (show k=2→timeS ⟨k,(dn:Int),(nn:Int),o⟩=clockS nn from fun h=>by unfold timeS;rw [if_neg (show ¬ k=1 by omega),if_pos h];rfl)
 have HK3:=Hd (show k=3→timeS ⟨k,(dn:Int),(nn:Int),o⟩=dateS dn++⟨#[84]⟩++clockS nn from fun h=>by unfold timeS;rw [if_neg (show ¬ k=1 by omega),if_neg (show ¬ k=2 by omega),if_pos h];rfl)
 have HK4:=Hd (show k=4→timeS ⟨k,(dn:Int),(nn:Int),o⟩=dateS dn++⟨#[84]⟩++clockS nn++offS o from fun h=>by unfold timeS;rw [if_neg (show ¬ k=1 by omega),if_neg (show ¬ k=2 by omega),if_neg (show ¬ k=3 by omega)];rfl)
 have HC:=Hd (fun u=>clockText_p nn hnn u)
 have HO:=Hd (fun u=>offsetText_p o o1 o2 u)
 have z2:=clockS_size nn
 have z3:=offS_size o
 have HD:=Hd (fun u=>dateText_p dn hdn u)
 have z1:=dateS_size dn
 generalize dateS dn=dt at *
 generalize clockS nn=ct at *
 generalize offS o=ot at *
 generalize timeS ⟨k,(dn:Int),(nn:Int),o⟩=res at *
 have HC0:=Hd (show ([Value.int .i64 k,.int .i64 dn,.int .i64 nn,.int .i64 o]:List Value)[0]?=some (.int .i64 k) from rfl)
 have HC1:=Hd (show ([Value.int .i64 k,.int .i64 dn,.int .i64 nn,.int .i64 o]:List Value)[1]?=some (.int .i64 dn) from rfl)
 have HC2:=Hd (show ([Value.int .i64 k,.int .i64 dn,.int .i64 nn,.int .i64 o]:List Value)[2]?=some (.int .i64 nn) from rfl)
 have HC3:=Hd (show ([Value.int .i64 k,.int .i64 dn,.int .i64 nn,.int .i64 o]:List Value)[3]?=some (.int .i64 o) from rfl)
 obtain ⟨w2,hw2⟩:∃ w2,w2=w.alloc (.cells ([Value.int .i64 k,.int .i64 dn,.int .i64 nn,.int .i64 o]:List Value).toArray 34):=⟨_,rfl⟩
 have HW:=Hd hw2
 have RU:=Hd (show RowT 34 w2 w.heap.size [.int .i64 k,.int .i64 dn,.int .i64 nn,.int .i64 o] by rw [hw2];exact RowT.new w 34 _)
 have HB:=Hd (show Below w.heap.size w w2 by rw [hw2];exact belowBox w _)
 clear hv hw2 d1 d2 n1 n2 o1 o2 k3 k4 k5 hdn hnn
 go_enter Tryz.func88,Tryz.ntmps88
 go_wp2_with fail
 rw [← HW.out]
 refine (HV.out _).mono ?_
 rintro e w3 ⟨rfl,hb2⟩
 replace RU:=Hd (RU.out.then hb2)
 replace HB:=Hd (belowThen HB.out hb2)
 clear hb2 HW
 obtain ⟨w2,rfl⟩:∃ w2,w2=w3:=⟨w3,rfl⟩
 have e0:=RU.out.cell HC0.out
 have e1:=RU.out.cell HC1.out
 have e2:=RU.out.cell HC2.out
 have e3:=RU.out.cell HC3.out
 rcases (show k=1∨k=2∨k=3∨k=4 by omega) with rfl | rfl | rfl | rfl
 ·have HR:=Hd (HK1.out rfl)
  clear k1 k2
  go_wp2_with fail
  refine (HD.out _).mono ?_
  rintro e w4 ⟨rfl,hb2⟩
  have H4:=Hd (belowThen HB.out hb2)
  clear hb2
  go_wp2_with fail
  go_ret
  exact ⟨by rw [HR.out];rfl,H4.out⟩
 ·have HR:=Hd (HK2.out rfl)
  clear k1 k2
  go_wp2_with fail
  refine (HC.out _).mono ?_
  rintro e w7 ⟨rfl,hb2⟩
  have H4:=Hd (belowThen HB.out hb2)
  clear hb2
  go_wp2_with fail
  go_ret
  exact ⟨by rw [HR.out];rfl,H4.out⟩
 ·have HR:=Hd (HK3.out rfl)
  clear k1 k2
  go_wp2_with fail
  refine wp_region_held_drew (S:=fun u=>Below w2.heap.size w2 u) (by kernel_rfl) (drewU w2) (fun hHeld=>?_)
  refine' tk 0 (.pointer (some ⟨w.heap.size,1,none⟩)) rfl rfl (.inl ⟨by rfl,fun u hu=>(by go_simp)⟩) hHeld ?_
  simp only [sq1,sq0]
  refine' tk 1 (.int .i64 dn) rfl rfl (.inl ⟨by rfl,fun u hu=>(by have hc:=(RU.out.then hu).cell HC1.out;go_simp)⟩) hHeld ?_
  simp only [sq1,sq0]
  refine' tk 4 (.pointer (some ⟨w.heap.size,2,none⟩)) rfl rfl (.inl ⟨by rfl,fun u hu=>(by go_simp)⟩) hHeld ?_
  simp only [sq1,sq0]
  refine' tk 5 (.int .i64 nn) rfl rfl (.inl ⟨by rfl,fun u hu=>(by have hc:=(RU.out.then hu).cell HC2.out;go_simp)⟩) hHeld ?_
  simp only [sq1,sq0]
  refine rd1 2 rfl (fun K hK=>?_)
  go_simp
  refine (HD.out _).mono ?_
  rintro e uC1 ⟨rfl,hbC⟩
  refine hK.out _ _ (belowThen hHeld hbC) (fun hHeld1=>?_)
  clear hK K hbC hHeld
  have hHeld:=hHeld1
  clear hHeld1
  refine' tk 3 (.string (dt++⟨#[84]⟩)) rfl rfl (.inl ⟨by rfl,fun u hu=>(by go_simp;all_goals omega)⟩) hHeld ?_
  simp only [sq1,sq0]
  refine rd1 6 rfl (fun K hK=>?_)
  go_simp
  refine (HC.out _).mono ?_
  rintro e uC2 ⟨rfl,hbC⟩
  refine hK.out _ _ (belowThen hHeld hbC) (fun hHeld2=>?_)
  clear hK K hbC hHeld
  have hHeld:=hHeld2
  clear hHeld2
  refine' tk 7 (.string ((dt++⟨#[84]⟩)++ct)) rfl rfl (.inl ⟨by rfl,fun u hu=>(by go_simp;all_goals omega)⟩) hHeld ?_
  simp only [sq1,sq0]
  refine rd1 8 rfl (fun K hK=>?_)
  go_simp
  refine hK.out _ _ hHeld (fun hHeldx=>?_)
  clear hK K hHeldx
  refine wpAnyH_done (by kernel_rfl) ?_ _
  go_wp2_with fail
  go_ret
  exact ⟨by rw [HR.out];rfl,belowThen HB.out hHeld⟩
 ·have HR:=Hd (HK4.out rfl)
  clear k1 k2
  go_wp2_with fail
  refine wp_region_held_drew (S:=fun u=>Below w2.heap.size w2 u) (by kernel_rfl) (drewU w2) (fun hHeld=>?_)
  refine' tk 0 (.pointer (some ⟨w.heap.size,1,none⟩)) rfl rfl (.inl ⟨by rfl,fun u hu=>(by go_simp)⟩) hHeld ?_
  simp only [sq1,sq0]
  refine' tk 1 (.int .i64 dn) rfl rfl (.inl ⟨by rfl,fun u hu=>(by have hc:=(RU.out.then hu).cell HC1.out;go_simp)⟩) hHeld ?_
  simp only [sq1,sq0]
  refine' tk 4 (.pointer (some ⟨w.heap.size,2,none⟩)) rfl rfl (.inl ⟨by rfl,fun u hu=>(by go_simp)⟩) hHeld ?_
  simp only [sq1,sq0]
  refine' tk 5 (.int .i64 nn) rfl rfl (.inl ⟨by rfl,fun u hu=>(by have hc:=(RU.out.then hu).cell HC2.out;go_simp)⟩) hHeld ?_
  simp only [sq1,sq0]
  refine' tk 8 (.pointer (some ⟨w.heap.size,3,none⟩)) rfl rfl (.inl ⟨by rfl,fun u hu=>(by go_simp)⟩) hHeld ?_
  simp only [sq1,sq0]
  refine' tk 9 (.int .i64 o) rfl rfl (.inl ⟨by rfl,fun u hu=>(by have hc:=(RU.out.then hu).cell HC3.out;go_simp)⟩) hHeld ?_
  simp only [sq1,sq0]
  refine rd1 2 rfl (fun K hK=>?_)
  go_simp
  refine (HD.out _).mono ?_
  rintro e uC1 ⟨rfl,hbC⟩
  refine hK.out _ _ (belowThen hHeld hbC) (fun hHeld1=>?_)
  clear hK K hbC hHeld
  have hHeld:=hHeld1
  clear hHeld1
  refine' tk 3 (.string (dt++⟨#[84]⟩)) rfl rfl (.inl ⟨by rfl,fun u hu=>(by go_simp;all_goals omega)⟩) hHeld ?_
  simp only [sq1,sq0]
  refine rd1 6 rfl (fun K hK=>?_)
  go_simp
  refine (HC.out _).mono ?_
  rintro e uC2 ⟨rfl,hbC⟩
  refine hK.out _ _ (belowThen hHeld hbC) (fun hHeld2=>?_)
  clear hK K hbC hHeld
  have hHeld:=hHeld2
  clear hHeld2
  refine' tk 7 (.string ((dt++⟨#[84]⟩)++ct)) rfl rfl (.inl ⟨by rfl,fun u hu=>(by go_simp;all_goals omega)⟩) hHeld ?_
  simp only [sq1,sq0]
  refine rd1 10 rfl (fun K hK=>?_)
  go_simp
  refine (HO.out _).mono ?_
  rintro e uC3 ⟨rfl,hbC⟩
  refine hK.out _ _ (belowThen hHeld hbC) (fun hHeld3=>?_)
  clear hK K hbC hHeld
  have hHeld:=hHeld3
  clear hHeld3
  refine' tk 11 (.string (((dt++⟨#[84]⟩)++ct)++ot)) rfl rfl (.inl ⟨by rfl,fun u hu=>(by go_simp;all_goals omega)⟩) hHeld ?_
  simp only [sq1,sq0]
  refine rd1 12 rfl (fun K hK=>?_)
  go_simp
  refine hK.out _ _ hHeld (fun hHeldx=>?_)
  clear hK K hHeldx
  refine wpAnyH_done (by kernel_rfl) ?_ _
  go_wp2_with fail
  go_ret
  exact ⟨by rw [HR.out];rfl,belowThen HB.out hHeld⟩
end Go.Proofs.YtniljgkkcnekgaaGreatDoor
