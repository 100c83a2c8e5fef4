/- The law BuiltinIndexes: it says yes, of values that lie in memory. -/
import Derived.Test.YtmbldgcbnkhabaaDoorIdx37g
namespace Go.Proofs.YtmbldgcbnkhabaaDoor
open Go.RowKit

set_option maxRecDepth 100000 in
set_option maxHeartbeats 3200000 in
theorem law37i (v i : ValD) (w : World) (N : Nat) (cs ds : List Value) (hN : N ≤ 4294967296) (hNN : v.list.length + v.fields.length ≤ N) (hv : ValD.At w w.heap.size N v cs) (hu : ValD.At w w.heap.size N i ds) :
    Calls Tryd.prog 3 #[.agg cs.toArray, .agg ds.toArray] w (YesB w) := by
  have HV := Lib.hid hv
  have HU := Lib.hid hu
  have hl := Lib.hid (show (Tryd.prog.info? 30).map (·.size) = some cs.length by rw [hv.len]; exact sizeV)
  have hl2 := Lib.hid (show (Tryd.prog.info? 30).map (·.size) = some ds.length by rw [hu.len]; exact sizeV)
  have H0 := Lib.hid (show Below w.heap.size w ((w.alloc (.cells cs.toArray 30)).alloc (.cells ds.toArray 30)) from belowThen (belowBox w _) (belowBox _ _))
  have hs0 : ((w.alloc (.cells cs.toArray 30)).alloc (.cells ds.toArray 30)).heap.size = w.heap.size + 2 := by rw [World.size_alloc, World.size_alloc]
  have R0 := Lib.hid (show CellsAt ((w.alloc (.cells cs.toArray 30)).alloc (.cells ds.toArray 30)) w.heap.size 0 cs from (box_at w cs 30).then (belowBox _ _) (by rw [World.size_alloc]; omega))
  have R1 := Lib.hid (show CellsAt ((w.alloc (.cells cs.toArray 30)).alloc (.cells ds.toArray 30)) (w.heap.size + 1) 0 ds from by
    have := box_at (w.alloc (.cells cs.toArray 30)) ds 30
    rw [World.size_alloc] at this
    exact this)
  have HS0 := Lib.hid hs0
  clear hv hu hs0
  go_enter Tryd.func3, Tryd.ntmps3
  go_wp2_with ((with_reducible show wpList _ _ _ (⟨some 13, _, _, _, _, _⟩ :: _) _ _); refine wpList_load_mid rfl 30 _ rfl w.heap.size 0 rfl cs _ R0.out.range Tryd.underlying30 rfl hl.out ?_)
  refine (valid37 v _ w.heap.size N cs hN H0.out.size (HV.out.below H0.out)).mono ?_
  rintro e w1 ⟨b1, rfl, hq, hb⟩
  have H1 := Lib.hid (belowThen H0.out hb)
  have hs1 : w.heap.size + 2 ≤ w1.heap.size := by have := hb.size; rw [HS0.out] at this; exact this
  have A0 := Lib.hid (R0.out.below hb (by rw [HS0.out]; omega))
  have A1 := Lib.hid (R1.out.below hb (by rw [HS0.out]; omega))
  cases b1 with
  | false =>
    clear hq hb
    go_wp2_with fail
    go_ret
    exact ⟨rfl, H1.out⟩
  | true =>
  have HQ := Lib.hid (hq rfl)
  clear hq hb R0 R1
  go_wp2_with ((with_reducible show wpList _ _ _ (⟨some 17, _, _, _, _, _⟩ :: _) _ _); refine wpList_load_mid_g rfl 30 _ rfl (w.heap.size + 1) 0 rfl ds _ A1.out.range Tryd.underlying30 rfl hl2.out ?_)
  refine (valid37 i _ w.heap.size N ds hN H1.out.size (HU.out.below H1.out)).mono ?_
  rintro e w2 ⟨b2, rfl, hq2, hb⟩
  have H2 := Lib.hid (belowThen H1.out hb)
  have hs2 : w.heap.size + 2 ≤ w2.heap.size := by have := hb.size; omega
  have B0 := Lib.hid (A0.out.below hb (by omega))
  have B1 := Lib.hid (A1.out.below hb (by omega))
  cases b2 with
  | false =>
    clear hq2 hb
    go_wp2_with fail
    go_ret
    exact ⟨rfl, H2.out⟩
  | true =>
  have HQ2 := Lib.hid (hq2 rfl)
  clear hq2 hb A0 A1 hs1
  go_wp2_with (first
    | ((with_reducible show wpList _ _ _ (⟨some 22, _, _, _, _, _⟩ :: _) _ _); refine wpList_load_mid rfl 30 _ rfl w.heap.size 0 rfl cs _ B0.out.range Tryd.underlying30 rfl hl.out ?_)
    | ((with_reducible show wpList _ _ _ (⟨some 23, _, _, _, _, _⟩ :: _) _ _); refine wpList_load_mid rfl 30 _ rfl (w.heap.size + 1) 0 rfl ds _ B1.out.range Tryd.underlying30 rfl hl2.out ?_))
  refine (index_prog v i w2 N cs ds hN HQ.out.1 HQ2.out.2.1 HQ.out.2.2 ((HV.out.below H2.out).mono H2.out.size) ((HU.out.below H2.out).mono H2.out.size)).mono ?_
  rintro e w3 ⟨xs, rfl, hx, hb⟩
  have HX := Lib.hid hx
  have HB3 := Lib.hid (belowThen H2.out (belowThen hb (belowBox w3 (.cells xs.toArray 30))))
  have C0 := Lib.hid (B0.out.below (belowThen hb (belowBox w3 (.cells xs.toArray 30))) (by omega))
  have C1 := Lib.hid (B1.out.below (belowThen hb (belowBox w3 (.cells xs.toArray 30))) (by omega))
  have hlx := hx.len
  have HLX := Lib.hid (show (Tryd.prog.info? 30).map (·.size) = some xs.length by rw [hx.len]; exact sizeV)
  have hs3 : w.heap.size + 2 ≤ w3.heap.size := by have := hb.size; omega
  have HSX := Lib.hid (World.size_alloc w3 (.cells xs.toArray 30))
  have X3 := Lib.hid (box_at w3 xs 30)
  clear hx hb B0 B1 hs2
  go_wp2_with (first
    | ((with_reducible show wpList _ _ _ (⟨none, .store 30 (.tmp 5) _, _, _, _, _⟩ :: _) _ _); refine wpList_store_new rfl 30 _ _ rfl zeroV xs.toArray rfl rfl (row_size hlx) (row_zero hlx) (row_ones HX.out) ?_)
    | ((with_reducible show wpList _ _ _ (⟨some 28, _, _, _, _, _⟩ :: _) _ _); refine wpList_load_mid rfl 30 _ rfl w.heap.size 0 rfl cs _ C0.out.range Tryd.underlying30 rfl hl.out ?_)
    | ((with_reducible show wpList _ _ _ (⟨some 29, _, _, _, _, _⟩ :: _) _ _); refine wpList_load_mid rfl 30 _ rfl (w.heap.size + 1) 0 rfl ds _ C1.out.range Tryd.underlying30 rfl hl2.out ?_))
  refine (index_ref v i (w3.alloc (.cells xs.toArray 30)) N cs ds hN HQ2.out.2.1 HQ.out.2.2 ((HV.out.below HB3.out).mono HB3.out.size) ((HU.out.below HB3.out).mono HB3.out.size)).mono ?_
  rintro e w4 ⟨ys, rfl, hy, hb⟩
  have HY := Lib.hid hy
  have X4 := Lib.hid (X3.out.below hb (by rw [HSX.out]; omega))
  have HX4 := Lib.hid (HX.out.below ((belowThen (belowBox w3 (.cells xs.toArray 30)) hb)))
  have hs4 : w3.heap.size + 1 ≤ w4.heap.size := by have := hb.size; rw [HSX.out] at this; exact this
  have HB4 := Lib.hid (belowThen HB3.out (belowThen hb (belowBox w4 (.cells ys.toArray 30))))
  have D0 := Lib.hid (C0.out.below (belowThen hb (belowBox w4 (.cells ys.toArray 30))) (by rw [HSX.out]; omega))
  have hly := hy.len
  have HLY := Lib.hid (show (Tryd.prog.info? 30).map (·.size) = some ys.length by rw [hy.len]; exact sizeV)
  have HSY := Lib.hid (World.size_alloc w4 (.cells ys.toArray 30))
  have Y4 := Lib.hid (box_at w4 ys 30)
  have X5 := Lib.hid (X4.out.below (belowBox w4 (.cells ys.toArray 30)) (by omega))
  have HX5 := Lib.hid (HX4.out.below ((belowBox w4 (.cells ys.toArray 30)).mono (by omega)))
  have HY5 := Lib.hid (HY.out.below (belowBox w4 (.cells ys.toArray 30)))
  clear hy hb C0 C1 X3 X4 HX4
  go_wp2_with (first
    | ((with_reducible show wpList _ _ _ (⟨none, .store 30 (.tmp 7) _, _, _, _, _⟩ :: _) _ _); refine wpList_store_new rfl 30 _ _ rfl zeroV ys.toArray rfl rfl (row_size hly) (row_zero hly) (row_ones HY.out) ?_)
    | ((with_reducible show wpList _ _ _ (⟨some 34, _, _, _, _, _⟩ :: _) _ _); refine wpList_load_mid rfl 30 _ rfl w.heap.size 0 rfl cs _ D0.out.range Tryd.underlying30 rfl hl.out ?_))
  refine (each_prog v (w4.alloc (.cells ys.toArray 30)) N cs hN HQ.out.1 ((HV.out.below HB4.out).mono HB4.out.size)).mono ?_
  rintro e w5 ⟨a1, c1, rfl, hv1, hb⟩
  have HV1 := Lib.hid hv1
  have HB5 := Lib.hid (belowThen HB4.out hb)
  have hs5 : w4.heap.size + 1 ≤ w5.heap.size := by have := hb.size; rw [HSY.out] at this; exact this
  have E0 := Lib.hid (D0.out.below hb (by rw [HSY.out]; omega))
  have X6 := Lib.hid (X5.out.below hb (by rw [HSY.out]; omega))
  have Y6 := Lib.hid (Y4.out.below hb (by rw [HSY.out]; omega))
  have HX6 := Lib.hid (HX5.out.below (hb.mono (by rw [HSY.out]; omega)))
  have HY6 := Lib.hid (HY5.out.below (hb.mono (by rw [HSY.out]; omega)))
  clear hv1 hb D0 X5 HX5 HY5 Y4
  go_wp2_with ((with_reducible show wpList _ _ _ (⟨some 39, _, _, _, _, _⟩ :: _) _ _); refine wpList_load_mid rfl 30 _ rfl w.heap.size 0 rfl cs _ E0.out.range Tryd.underlying30 rfl hl.out ?_)
  refine (each_ref v w5 N cs hN ((HV.out.below HB5.out).mono HB5.out.size)).mono ?_
  rintro e w6 ⟨a2, c2, rfl, hv2, hb⟩
  have HV2 := Lib.hid hv2
  have HV1' := Lib.hid (HV1.out.below hb)
  have HB6 := Lib.hid (belowThen HB5.out hb)
  have hs6 : w5.heap.size ≤ w6.heap.size := hb.size
  have X7 := Lib.hid (X6.out.below hb (by omega))
  have Y7 := Lib.hid (Y6.out.below hb (by omega))
  have HX7 := Lib.hid ((HX6.out.below (hb.mono (by omega))).mono (show w3.heap.size ≤ w6.heap.size by omega))
  have HY7 := Lib.hid ((HY6.out.below (hb.mono (by omega))).mono (show w4.heap.size ≤ w6.heap.size by omega))
  clear hv2 hb X6 Y6 HX6 HY6 E0
  go_wp2_with (first
    | ((with_reducible show wpList _ _ _ (⟨some 43, _, _, _, _, _⟩ :: _) _ _); refine wpList_load_mid rfl 30 _ rfl w3.heap.size 0 rfl xs _ X7.out.range Tryd.underlying30 rfl HLX.out ?_)
    | ((with_reducible show wpList _ _ _ (⟨some 45, _, _, _, _, _⟩ :: _) _ _); refine wpList_load_mid rfl 30 _ rfl w4.heap.size 0 rfl ys _ Y7.out.range Tryd.underlying30 rfl HLY.out ?_))
  refine (alike_yes 59 (idxD v i).1 (idxD v i).2 w6 w6.heap.size N xs ys (idxD_fits 58 v i HQ.out.1) hN (Nat.le_refl _) HX7.out HY7.out).mono ?_
  rintro e w7 ⟨rfl, hb⟩
  have HB7 := Lib.hid (belowThen HB6.out hb)
  have VA := Lib.hid ((HV1'.out.mono hs6).below hb)
  have VB := Lib.hid (HV2.out.below hb)
  have HS7 := Lib.hid hb.size
  have HLE := Lib.hid (show (eachD v).1.length ≤ N by
    unfold eachD
    split
    · show (partsV v).length ≤ N
      rw [partsV_len]; exact hNN
    · exact Nat.zero_le _)
  clear hb
  go_wp2_with fail
  refine (sameAll_yes 59 (eachD v).1 w7 w6.heap.size N a1 a2 c1 c2 (eachD_fits 59 v HQ.out.1) hN HLE.out HS7.out VA.out VB.out).mono ?_
  rintro e w8 ⟨rfl, hb⟩
  have HB8 := Lib.hid (belowThen HB7.out hb)
  clear hb
  go_wp2_with fail
  go_ret
  exact ⟨rfl, HB8.out⟩
end Go.Proofs.YtmbldgcbnkhabaaDoor
