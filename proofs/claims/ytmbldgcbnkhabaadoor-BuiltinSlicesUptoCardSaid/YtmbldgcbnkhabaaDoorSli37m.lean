/- The law BuiltinSlices: it says yes, of values that lie in memory. -/
import Derived.Test.YtmbldgcbnkhabaaDoorSli37l
import Derived.Test.YtmbldgcbnkhabaaDoorIdx37g
namespace Go.Proofs.YtmbldgcbnkhabaaDoor
open Go.RowKit

theorem slice_prog (v a b : ValD) (w : World) (N : Nat) (cs ds es : List Value) (hN : N ≤ 4294967296) (hT : Lib.Utf8Tabs 0 1 w) (hf : fitsV 60 v) (hda : VDec a.num) (hdb : VDec b.num) (hvs : validS v.text = true) (hts : v.text.size ≤ 65536)
    (hl0 : v.kind ≠ 6 → v.list = []) (ht0 : v.kind ≠ 4 → v.text.size = 0) (hcap : ∀ x n c, cs[11]? = some (.slice x n c) → n ≤ c) (hv : ValD.At w w.heap.size N v cs) (ha : ValD.At w w.heap.size N a ds) (hb : ValD.At w w.heap.size N b es) :
    Calls Tryd.prog 12 #[.agg cs.toArray, .agg ds.toArray, .agg es.toArray] w (IdxR N (slcD v a b) w) := by
  by_cases hA : v.kind ≠ 0 ∧ v.kind ≠ 4 ∧ v.kind ≠ 6
  · exact slice_prog_no v a b w N cs ds es hT hf hda hdb hvs hl0 ht0 hcap hv ha hb hA
  · rcases (show v.kind = 0 ∨ v.kind = 4 ∨ v.kind = 6 by omega) with h | h | h
    · exact slice_prog0 v a b w N cs ds es hT hf hda hdb hvs hl0 ht0 hcap hv ha hb h
    · exact slice_prog4 v a b w N cs ds es hT hf hda hdb hvs hts hl0 ht0 hcap hv ha hb h
    · exact slice_prog6 v a b w N cs ds es hN hT hf hda hdb hvs hts hl0 ht0 hcap hv ha hb h
theorem slice_ref (v a b : ValD) (w : World) (N : Nat) (cs ds es : List Value) (hN : N ≤ 16777216) (hda : VDec a.num) (hdb : VDec b.num) (hvs : validS v.text = true) (hts : v.text.size ≤ 65536)
    (hl0 : v.kind ≠ 6 → v.list = []) (hv : ValD.At w w.heap.size N v cs) (ha : ValD.At w w.heap.size N a ds) (hb : ValD.At w w.heap.size N b es) :
    Calls Tryd.prog 13 #[.agg cs.toArray, .agg ds.toArray, .agg es.toArray] w (IdxR N (slcD v a b) w) := by
  by_cases hA : v.kind ≠ 0 ∧ v.kind ≠ 4 ∧ v.kind ≠ 6
  · exact slice_ref_no v a b w N cs ds es hv hA
  · rcases (show v.kind = 0 ∨ v.kind = 4 ∨ v.kind = 6 by omega) with h | h | h
    · exact slice_ref0 v a b w N cs ds es hl0 hda hdb hv ha hb h
    · exact slice_ref4 v a b w N cs ds es hN hvs hts hda hdb hv ha hb h
    · exact slice_ref6 v a b w N cs ds es hN hda hdb hv ha hb h

theorem slcD_fits (n : Nat) (v a b : ValD) (h : fitsV (n + 1) v) : fitsV (n + 1) (slcD v a b).1 := by
  unfold slcD
  split
  · exact zeroD_fits n
  split
  · exact zeroD_fits n
  split
  · exact zeroD_fits n
  split
  · exact zeroD_fits n
  split
  · exact ⟨fun x hx => (by cases hx), fun f hf => (by cases hf)⟩
  · unfold resD
    split
    · exact ⟨fun x hx => h.1 x (List.mem_of_mem_drop (List.mem_of_mem_take hx)), fun f hf => (by cases hf)⟩
    · exact zeroD_fits n

def VlxR (v : ValD) (w : World) (e : Ending) (w' : World) : Prop := ∃ b, e = .returned (.bool b) ∧ (b = true → fitsV 60 v ∧ chkD v = 0) ∧ Below w.heap.size w w'
set_option maxRecDepth 100000 in
set_option maxHeartbeats 1600000 in
theorem valid37x (v : ValD) (w : World) (B N : Nat) (cs : List Value) (hN : N ≤ 4294967296) (hB : B ≤ w.heap.size) (hv : ValD.At w B N v cs) : Calls Tryd.prog 5 #[.agg cs.toArray] w (VlxR v w) := by
  have HV := Lib.hid hv
  have hl := Lib.hid (show (Tryd.prog.info? 30).map (·.size) = some cs.length by rw [hv.len]; exact sizeV)
  have H0 := Lib.hid (show Below w.heap.size w (w.alloc (.cells cs.toArray 30)) from belowBox w _)
  clear hv
  go_enter Tryd.func5, Tryd.ntmps5
  go_wp2_with ((with_reducible show wpList _ _ _ (⟨some 3, _, _, _, _, _⟩ :: _) _ _); refine wpList_load_mid rfl 30 _ rfl w.heap.size 0 rfl cs _ (box_at w cs 30).range Tryd.underlying30 rfl hl.out ?_)
  refine (small_ex _ B N v cs (by omega) (Nat.le_trans hB H0.out.size) (HV.out.below (H0.out.mono hB))).mono ?_
  rintro e w1 ⟨b, rfl, hs, hb⟩
  have H1 := Lib.hid (belowThen H0.out hb)
  have R1 := Lib.hid ((box_at w cs 30).then hb (by rw [World.size_alloc]; omega))
  cases b with
  | false =>
    clear hs hb
    go_wp2_with fail
    go_ret
    exact ⟨_, rfl, fun h => (by cases h), H1.out⟩
  | true =>
    have HS := Lib.hid (hs rfl)
    clear hs hb
    go_wp2_with ((with_reducible show wpList _ _ _ (⟨some 6, _, _, _, _, _⟩ :: _) _ _); refine wpList_load_mid_g rfl 30 _ rfl w.heap.size 0 rfl cs _ R1.out.range Tryd.underlying30 rfl hl.out ?_)
    refine (check07_exact v _ B N cs hN (Nat.le_trans hB H1.out.size) (HV.out.below (H1.out.mono hB))).mono ?_
    rintro e w2 ⟨rfl, hb⟩
    obtain ⟨k, hk⟩ : ∃ k, chkD v = k := ⟨_, rfl⟩
    have HK := Lib.hid hk
    rw [hk]
    have H2 := Lib.hid (belowThen H1.out hb)
    clear hk hb
    go_wp2_with fail
    go_ret
    refine ⟨_, rfl, fun h => ⟨HS.out, HK.out.trans ?_⟩, H2.out⟩
    simpa using h

/-- Three boxes. -/
structure Tri (w W : World) (cs ds es : List Value) : Prop where
  below : Below w.heap.size w W
  one : CellsAt W w.heap.size 0 cs
  two : CellsAt W (w.heap.size + 1) 0 ds
  three : CellsAt W (w.heap.size + 1 + 1) 0 es
  size : w.heap.size + 3 ≤ W.heap.size
theorem Tri.later {w W W' : World} {cs ds es : List Value} (h : Tri w W cs ds es) (hb : Below W.heap.size W W') : Tri w W' cs ds es :=
  ⟨belowThen h.below hb, h.one.below hb (by have := h.size; omega), h.two.below hb (by have := h.size; omega), h.three.below hb (by have := h.size; omega), Nat.le_trans h.size hb.size⟩
theorem tri_boxes (w : World) (cs ds es : List Value) : Tri w (((w.alloc (.cells cs.toArray 30)).alloc (.cells ds.toArray 30)).alloc (.cells es.toArray 30)) cs ds es := by
  have hs1 : (w.alloc (.cells cs.toArray 30)).heap.size = w.heap.size + 1 := by rw [World.size_alloc]
  have hs2 : ((w.alloc (.cells cs.toArray 30)).alloc (.cells ds.toArray 30)).heap.size = w.heap.size + 2 := by rw [World.size_alloc, World.size_alloc]
  have hs3 : (((w.alloc (.cells cs.toArray 30)).alloc (.cells ds.toArray 30)).alloc (.cells es.toArray 30)).heap.size = w.heap.size + 3 := by rw [World.size_alloc, World.size_alloc, World.size_alloc]
  refine ⟨belowThen (belowThen (belowBox w _) (belowBox _ _)) (belowBox _ _), ((box_at w cs 30).then (belowBox _ _) (by omega)).then (belowBox _ _) (by omega), ?_, ?_, by omega⟩
  · have := box_at (w.alloc (.cells cs.toArray 30)) ds 30
    rw [hs1] at this
    exact this.then (belowBox _ _) (by omega)
  · have := box_at ((w.alloc (.cells cs.toArray 30)).alloc (.cells ds.toArray 30)) es 30
    rw [hs2] at this
    exact this

set_option maxRecDepth 100000 in
set_option maxHeartbeats 6400000 in
theorem law37s (v a b : ValD) (w : World) (N : Nat) (cs ds es : List Value) (hN : N ≤ 16777216) (hT : Lib.Utf8Tabs 0 1 w) (hcap : ∀ x n c, cs[11]? = some (.slice x n c) → n ≤ c) (hv : ValD.At w w.heap.size N v cs) (ha : ValD.At w w.heap.size N a ds) (hb : ValD.At w w.heap.size N b es) :
    Calls Tryd.prog 4 #[.agg cs.toArray, .agg ds.toArray, .agg es.toArray] w (YesB w) := by
  have HV := Lib.hid hv
  have HA := Lib.hid ha
  have HB := Lib.hid hb
  have HT := Lib.hid hT
  have HCAP := Lib.hid hcap
  have hl := Lib.hid (show (Tryd.prog.info? 30).map (·.size) = some cs.length by rw [hv.len]; exact sizeV)
  have hl2 := Lib.hid (show (Tryd.prog.info? 30).map (·.size) = some ds.length by rw [ha.len]; exact sizeV)
  have hl3 := Lib.hid (show (Tryd.prog.info? 30).map (·.size) = some es.length by rw [hb.len]; exact sizeV)
  have T0 := Lib.hid (tri_boxes w cs ds es)
  clear hv ha hb hT hcap
  go_enter Tryd.func4, Tryd.ntmps4
  go_wp2_with ((with_reducible show wpList _ _ _ (⟨some 11, _, _, _, _, _⟩ :: _) _ _); refine wpList_load_mid rfl 30 _ rfl w.heap.size 0 rfl cs _ T0.out.one.range Tryd.underlying30 rfl hl.out ?_)
  refine (valid37x v _ w.heap.size N cs (by omega) T0.out.below.size (HV.out.below T0.out.below)).mono ?_
  rintro e w1 ⟨b1, rfl, hq, hb⟩
  have T1 := Lib.hid (T0.out.later hb)
  cases b1 with
  | false =>
    clear hq hb
    go_wp2_with fail
    go_ret
    exact ⟨rfl, T1.out.below⟩
  | true =>
  have HQ := Lib.hid (hq rfl)
  clear hq hb T0
  go_wp2_with ((with_reducible show wpList _ _ _ (⟨some 15, _, _, _, _, _⟩ :: _) _ _); refine wpList_load_mid_g rfl 30 _ rfl (w.heap.size + 1) 0 rfl ds _ T1.out.two.range Tryd.underlying30 rfl hl2.out ?_)
  refine (valid37x a _ w.heap.size N ds (by omega) T1.out.below.size (HA.out.below T1.out.below)).mono ?_
  rintro e w2 ⟨b2, rfl, hq, hb⟩
  have T2 := Lib.hid (T1.out.later hb)
  cases b2 with
  | false =>
    clear hq hb
    go_wp2_with fail
    go_ret
    exact ⟨rfl, T2.out.below⟩
  | true =>
  have HQ2 := Lib.hid (hq rfl)
  clear hq hb T1
  go_wp2_with ((with_reducible show wpList _ _ _ (⟨some 20, _, _, _, _, _⟩ :: _) _ _); refine wpList_load_mid_g rfl 30 _ rfl (w.heap.size + 1 + 1) 0 rfl es _ T2.out.three.range Tryd.underlying30 rfl hl3.out ?_)
  refine (valid37x b _ w.heap.size N es (by omega) T2.out.below.size (HB.out.below T2.out.below)).mono ?_
  rintro e w3 ⟨b3, rfl, hq, hb⟩
  have T3 := Lib.hid (T2.out.later hb)
  cases b3 with
  | false =>
    clear hq hb
    go_wp2_with fail
    go_ret
    exact ⟨rfl, T3.out.below⟩
  | true =>
  have HQ3 := Lib.hid (hq rfl)
  clear hq hb T2
  have CV := Lib.hid (chkD_own HQ.out.2)
  have CA := Lib.hid (chkD_own HQ2.out.2)
  have CB := Lib.hid (chkD_own HQ3.out.2)
  go_wp2_with (first
    | ((with_reducible show wpList _ _ _ (⟨some 25, _, _, _, _, _⟩ :: _) _ _); refine wpList_load_mid rfl 30 _ rfl w.heap.size 0 rfl cs _ T3.out.one.range Tryd.underlying30 rfl hl.out ?_)
    | ((with_reducible show wpList _ _ _ (⟨some 26, _, _, _, _, _⟩ :: _) _ _); refine wpList_load_mid rfl 30 _ rfl (w.heap.size + 1) 0 rfl ds _ T3.out.two.range Tryd.underlying30 rfl hl2.out ?_)
    | ((with_reducible show wpList _ _ _ (⟨some 27, _, _, _, _, _⟩ :: _) _ _); refine wpList_load_mid rfl 30 _ rfl (w.heap.size + 1 + 1) 0 rfl es _ T3.out.three.range Tryd.underlying30 rfl hl3.out ?_))
  refine (slice_prog v a b w3 N cs ds es (by omega) (tabs_below HT.out T3.out.below) HQ.out.1 CA.out.1 CB.out.1 CV.out.2.1 CV.out.2.2.1 CV.out.2.2.2.1 CV.out.2.2.2.2 HCAP.out ((HV.out.below T3.out.below).mono T3.out.below.size) ((HA.out.below T3.out.below).mono T3.out.below.size) ((HB.out.below T3.out.below).mono T3.out.below.size)).mono ?_
  rintro e w4 ⟨xs, rfl, hx, hb⟩
  have HX := Lib.hid hx
  have T4 := Lib.hid (T3.out.later hb)
  have HLX := Lib.hid hx.len
  have hlx := Lib.hid (show (Tryd.prog.info? 30).map (·.size) = some xs.length by rw [hx.len]; exact sizeV)
  have T5 := Lib.hid (T4.out.later (belowBox w4 (.cells xs.toArray 30)))
  have X5 := Lib.hid (box_at w4 xs 30)
  have HS5 := Lib.hid (World.size_alloc w4 (.cells xs.toArray 30))
  clear hx hb T3
  go_wp2_with (first
    | ((with_reducible show wpList _ _ _ (⟨none, .store 30 (.tmp 7) _, _, _, _, _⟩ :: _) _ _); refine wpList_store_new rfl 30 _ _ rfl zeroV xs.toArray rfl rfl (row_size HLX.out) (row_zero HLX.out) (row_ones HX.out) ?_)
    | ((with_reducible show wpList _ _ _ (⟨some 32, _, _, _, _, _⟩ :: _) _ _); refine wpList_load_mid rfl 30 _ rfl w.heap.size 0 rfl cs _ T5.out.one.range Tryd.underlying30 rfl hl.out ?_)
    | ((with_reducible show wpList _ _ _ (⟨some 33, _, _, _, _, _⟩ :: _) _ _); refine wpList_load_mid rfl 30 _ rfl (w.heap.size + 1) 0 rfl ds _ T5.out.two.range Tryd.underlying30 rfl hl2.out ?_)
    | ((with_reducible show wpList _ _ _ (⟨some 34, _, _, _, _, _⟩ :: _) _ _); refine wpList_load_mid rfl 30 _ rfl (w.heap.size + 1 + 1) 0 rfl es _ T5.out.three.range Tryd.underlying30 rfl hl3.out ?_))
  refine (slice_ref v a b (w4.alloc (.cells xs.toArray 30)) N cs ds es hN CA.out.1 CB.out.1 CV.out.2.1 CV.out.2.2.1 CV.out.2.2.2.1 ((HV.out.below T5.out.below).mono T5.out.below.size) ((HA.out.below T5.out.below).mono T5.out.below.size) ((HB.out.below T5.out.below).mono T5.out.below.size)).mono ?_
  rintro e w6 ⟨ys, rfl, hy, hb⟩
  have HY := Lib.hid hy
  have HLY := Lib.hid hy.len
  have hly := Lib.hid (show (Tryd.prog.info? 30).map (·.size) = some ys.length by rw [hy.len]; exact sizeV)
  have hs6 : w4.heap.size + 1 ≤ w6.heap.size := by have := hb.size; rw [HS5.out] at this; exact this
  have T7 := Lib.hid ((T5.out.later hb).later (belowBox w6 (.cells ys.toArray 30)))
  have X7 := Lib.hid ((X5.out.then hb (by rw [HS5.out]; omega)).then (belowBox w6 (.cells ys.toArray 30)) (by omega))
  have Y7 := Lib.hid (box_at w6 ys 30)
  have HX7 := Lib.hid (((HX.out.below (belowThen (belowBox w4 (.cells xs.toArray 30)) hb)).below ((belowBox w6 (.cells ys.toArray 30)).mono (by omega))).mono (show w4.heap.size ≤ w6.heap.size by omega))
  have HY7 := Lib.hid (HY.out.below (belowBox w6 (.cells ys.toArray 30)))
  have HS7 := Lib.hid (World.size_alloc w6 (.cells ys.toArray 30))
  clear hy hb X5 T5
  go_wp2_with (first
    | ((with_reducible show wpList _ _ _ (⟨none, .store 30 (.tmp 9) _, _, _, _, _⟩ :: _) _ _); refine wpList_store_new rfl 30 _ _ rfl zeroV ys.toArray rfl rfl (row_size HLY.out) (row_zero HLY.out) (row_ones HY.out) ?_)
    | ((with_reducible show wpList _ _ _ (⟨some 38, _, _, _, _, _⟩ :: _) _ _); refine wpList_load_mid rfl 30 _ rfl w4.heap.size 0 rfl xs _ X7.out.range Tryd.underlying30 rfl hlx.out ?_)
    | ((with_reducible show wpList _ _ _ (⟨some 40, _, _, _, _, _⟩ :: _) _ _); refine wpList_load_mid rfl 30 _ rfl w6.heap.size 0 rfl ys _ Y7.out.range Tryd.underlying30 rfl hly.out ?_))
  refine (alike_yes 60 (slcD v a b).1 (slcD v a b).2 (w6.alloc (.cells ys.toArray 30)) w6.heap.size N xs ys (slcD_fits 59 v a b HQ.out.1) (by omega) (by rw [HS7.out]; omega) HX7.out HY7.out).mono ?_
  rintro e w8 ⟨rfl, hb⟩
  have T8 := Lib.hid (T7.out.later hb)
  clear hb
  go_wp2_with fail
  go_ret
  exact ⟨rfl, T8.out.below⟩
end Go.Proofs.YtmbldgcbnkhabaaDoor
