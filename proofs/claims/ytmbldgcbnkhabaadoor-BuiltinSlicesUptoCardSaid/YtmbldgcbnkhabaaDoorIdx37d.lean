/- datakitref37.Index: what it gives: the same as builtin.Index. -/
import Derived.Test.YtmbldgcbnkhabaaDoorIdx37c
namespace Go.Proofs.YtmbldgcbnkhabaaDoor
open Go.RowKit

def NoneR (k : Int) (w : World) (e : Ending) (w' : World) : Prop := e = .returned (.tuple #[.agg zeroV, .int .i64 k]) ∧ Below w.heap.size w w'
theorem none_ref (k : Int) (w : World) : Calls Tryd.prog 21 #[.int .i64 k] w (NoneR k w) := by
  go_enter Tryd.func21, Tryd.ntmps21
  go_wp2_with ((with_reducible show wpList _ _ _ (⟨none, .store 30 (.tmp 2) _, _, _, _, _⟩ :: _) _ _); refine wpList_store_row rfl 30 _ _ rfl w.heap.size zeroV rfl rfl 30 zeroV (heap_alloc_new w _) sizeZ rfl oneZ ?_)
  refine bodyPost_ret (results_cell_row2 rfl _ _ w.heap.size 30 _ (0, 0) _ rfl (setRow_heap _ _ _ _ _ _ (heap_alloc_new w _)) Tryd.underlying30 rfl sizeZ) rfl ?_
  exact ⟨rfl, below_setRow (belowBox w _) (by omega) _⟩
theorem three0 (w : World) (cs ds : List Value) : Three w (((w.alloc (.cells cs.toArray 30)).alloc (.cells ds.toArray 30)).alloc (.cells zeroV 30)) cs ds := three_boxes w cs ds 0
theorem at_n (d : DecD) (n : Nat) (x : Int) (h : atD d n = x) (w : World) (hn : n ≤ 4294967296) (hv : VDec d) (he : 0 ≤ d.exp) : Calls Tryd.prog 23 #[.agg #[.bool d.neg, .string d.digits, .int .i64 d.exp], .int .i64 n] w (fun e w' => e = .returned (.int .i64 x) ∧ Below w.heap.size w w') :=
  (at_ref d n w hn hv he).mono fun e w' hh => ⟨by rw [hh.1, h], hh.2⟩

set_option maxRecDepth 100000 in
set_option maxHeartbeats 6400000 in
theorem index_ref (v i : ValD) (w : World) (N : Nat) (cs ds : List Value) (hN : N ≤ 4294967296) (hd : VDec i.num) (hl0 : v.kind ≠ 6 → v.list = []) (hv : ValD.At w w.heap.size N v cs) (hu : ValD.At w w.heap.size N i ds) :
    Calls Tryd.prog 7 #[.agg cs.toArray, .agg ds.toArray] w (IdxR N (idxD v i) w) := by
  obtain ⟨ya, la, va, yc, lc, vc, hh⟩ := hv.has
  obtain ⟨yb, lb, vb, yd, ld, vd, hg⟩ := hu.has
  have hll : v.list.length ≤ N := hh.own.2.2.2.2.2.2.2.2.2.1
  have HH := Lib.hid hh
  have HG := Lib.hid hg
  have HV := Lib.hid hv
  have HD := Lib.hid hd
  have HL0 := Lib.hid hl0
  have hl := Lib.hid (show (Tryd.prog.info? 30).map (·.size) = some cs.length by rw [hv.len]; exact sizeV)
  clear hv hu hd hl0 hh hg
  have HW := Lib.hid (three0 w cs ds)
  have z0 := HH.out.kind
  have z11 := HH.out.list
  have y0 := HG.out.kind
  have y2 := HG.out.neg
  have y3 := HG.out.digits
  have y4 := HG.out.exp
  have y9 := HG.out.text
  by_cases hA : v.kind = 7 ∧ i.kind = 4
  · have HR := Lib.hid (show idxD v i = (fieldV i.text v.fields, 0) by unfold idxD; rw [if_pos hA])
    rw [hA.1] at z0
    rw [hA.2] at y0
    clear hA
    go_enter Tryd.func7, Tryd.ntmps7
    go_wp2_with ((with_reducible show wpList _ _ _ (⟨some 18, _, _, _, _, _⟩ :: _) _ _); refine wpList_load_mid rfl 30 _ rfl w.heap.size 0 rfl cs _ HW.out.one.range Tryd.underlying30 rfl hl.out ?_)
    refine (field_ref v i.text _ w.heap.size N cs hN HW.out.below.size (HV.out.below HW.out.below)).mono ?_
    rintro e w1 ⟨cs2, b, rfl, hat, hb⟩
    have T1 := Lib.hid (HW.out.later hb)
    have A1 := Lib.hid hat.here
    have AS := Lib.hid hat
    have hlen := hat.here.len
    have hl2 := Lib.hid (show (Tryd.prog.info? 30).map (·.size) = some cs2.length by rw [hat.here.len]; exact sizeV)
    have hs1 := T1.out.size
    clear hat hb
    go_wp2_with (first
      | ((with_reducible show wpList _ _ _ (⟨none, .store 30 (.tmp 6) _, _, _, _, _⟩ :: _) _ _); refine wpList_store_new rfl 30 _ _ rfl zeroV cs2.toArray rfl rfl (row_size hlen) (row_zero hlen) (row_ones A1.out) ?_)
      | ((with_reducible show wpList _ _ _ (⟨some 24, _, _, _, _, _⟩ :: _) _ _); refine wpList_load_mid rfl 30 _ rfl w1.heap.size 0 rfl cs2 _ (box_at w1 cs2 30).range Tryd.underlying30 rfl hl2.out ?_)
      | ((with_reducible show wpList _ _ _ (⟨none, .store 30 (.tmp 4) _, _, _, _, _⟩ :: _) _ _); refine wpList_store_row rfl 30 _ _ rfl (w.heap.size + 1 + 1) cs2.toArray rfl rfl 30 zeroV (T1.out.out.alloc (by omega) _) (row_size hlen) (row_zero hlen) (row_ones A1.out) ?_))
    refine bodyPost_ret (results_cell_row2 rfl _ _ (w.heap.size + 1 + 1) 30 _ (0, 0) _ rfl (setRow_heap _ _ _ _ _ _ (T1.out.out.alloc (by omega) _)) Tryd.underlying30 rfl (row_size hlen)) rfl ?_
    rw [HR.out]
    refine ⟨cs2, rfl, ?_, below_setRow (belowThen T1.out.below (belowBox _ _)) (by omega) _⟩
    exact AS.out _ (Apart.of_setRow _ _ (by omega) (by have := HW.out.size; omega))
  · by_cases hB : (v.kind = 6 ∨ v.kind = 0) ∧ i.kind = 2
    · by_cases hx : i.num.exp < 0
      · have HR := Lib.hid (show idxD v i = (zeroD, 15) by unfold idxD; rw [if_neg hA, if_neg (by omega), if_pos hB, if_pos hx])
        have hx2 := Lib.hid (show decide (0 ≤ i.num.exp) = false by simpa using hx)
        obtain ⟨hB1, hB2⟩ := hB
        rw [hB2] at y0
        clear hA hB2 hx
        rcases hB1 with hB1 | hB1
        all_goals
          rw [hB1] at z0
          clear hB1
          go_enter Tryd.func7, Tryd.ntmps7
          go_wp2_with fail
          refine (whole_ref i.num false _ hx2.out).mono ?_
          rintro e w1 ⟨rfl, hb⟩
          have T1 := Lib.hid (HW.out.later hb)
          clear hb
          go_wp2_with fail
          refine (none_ref 15 _).mono ?_
          rintro e w2 ⟨rfl, hb⟩
          have T2 := Lib.hid (T1.out.later hb)
          clear hb
          go_wp2_with ((with_reducible show wpList _ _ _ (⟨none, .store 30 (.tmp 4) _, _, _, _, _⟩ :: _) _ _); refine wpList_store_row rfl 30 _ _ rfl (w.heap.size + 1 + 1) zeroV rfl rfl 30 zeroV T2.out.out sizeZ rfl oneZ ?_)
          all_goals
            refine bodyPost_ret (results_cell_row2 rfl _ _ (w.heap.size + 1 + 1) 30 _ (0, 0) _ rfl (setRow_heap _ _ _ _ _ _ T2.out.out) Tryd.underlying30 rfl sizeZ) rfl ?_
            exact idx_zero HR.out (by omega) T2.out.below
      · have hx2 := Lib.hid (show decide (0 ≤ i.num.exp) = true by simp; omega)
        have hx9 := Lib.hid (show 0 ≤ i.num.exp by omega)
        obtain ⟨hB1, hB2⟩ := hB
        have HRR := Lib.hid (show idxD v i = if 0 ≤ atD i.num v.list.length then (v.list.getD (atD i.num v.list.length).toNat zeroD, 0) else (zeroD, 0) by unfold idxD; rw [if_neg hA, if_neg (by omega), if_pos ⟨hB1, hB2⟩, if_neg hx])
        rw [hB2] at y0
        have hr := atD_range i.num v.list.length
        obtain ⟨x, hx3⟩ : ∃ x, atD i.num v.list.length = x := ⟨_, rfl⟩
        rw [hx3] at hr
        have HX := Lib.hid hx3
        clear hA hB2 hx hx3
        by_cases hmiss : x < 0
        · have HR := Lib.hid (show idxD v i = (zeroD, 0) by rw [HRR.out, HX.out, if_neg (by omega)])
          rcases hB1 with hB1 | hB1
          all_goals
            rw [hB1] at z0
            clear hB1 hr
            go_enter Tryd.func7, Tryd.ntmps7
            go_wp2_with fail
            refine (whole_ref i.num true _ hx2.out).mono ?_
            rintro e w1 ⟨rfl, hb⟩
            have T1 := Lib.hid (HW.out.later hb)
            have c11 := T1.out.one.get0 z11
            have d2 := T1.out.two.get0 y2
            have d3 := T1.out.two.get0 y3
            have d4 := T1.out.two.get0 y4
            clear hb
            go_wp2_with fail
            refine (at_n i.num v.list.length x HX.out _ (by omega) HD.out hx9.out).mono ?_
            rintro e w2 ⟨rfl, hb⟩
            have T2 := Lib.hid (T1.out.later hb)
            clear hb c11 d2 d3 d4
            go_wp2_with ((with_reducible show wpList _ _ _ (⟨none, .store 30 (.tmp 4) _, _, _, _, _⟩ :: _) _ _); refine wpList_store_row rfl 30 _ _ rfl (w.heap.size + 1 + 1) zeroV rfl rfl 30 zeroV T2.out.out sizeZ rfl oneZ ?_)
            all_goals
              refine bodyPost_ret (results_cell_row2 rfl _ _ (w.heap.size + 1 + 1) 30 _ (0, 0) _ rfl (setRow_heap _ _ _ _ _ _ T2.out.out) Tryd.underlying30 rfl sizeZ) rfl ?_
              exact idx_zero HR.out (by omega) T2.out.below
        · obtain ⟨m, rfl⟩ : ∃ m : Nat, x = m := ⟨x.toNat, by omega⟩
          have hm : m < v.list.length := by omega
          have hB6 : v.kind = 6 := by
            rcases hB1 with h | h
            · exact h
            · have := HL0.out (by omega)
              rw [this] at hm
              simp at hm
          rw [hB6] at z0
          have HR := Lib.hid (show idxD v i = (v.list[m], 0) by
            rw [HRR.out, HX.out, if_pos (by omega), Int.toNat_natCast, List.getD_eq_getElem?_getD, List.getElem?_eq_getElem hm]
            rfl)
          obtain ⟨b1, o1, rfl, hb1, hget1⟩ := HH.out.atList.get (by intro h; simp [h] at hm)
          obtain ⟨cs1, h1, h2⟩ := hget1 m hm
          have HV1 := Lib.hid h2
          have HC1 := Lib.hid h1
          have hlen := h2.len
          have hl1 := Lib.hid (show (Tryd.prog.info? 30).map (·.size) = some cs1.length by rw [h2.len]; exact sizeV)
          clear hmiss hB1 hB6 hget1 h1 h2 hr
          go_enter Tryd.func7, Tryd.ntmps7
          go_wp2_with fail
          refine (whole_ref i.num true _ hx2.out).mono ?_
          rintro e w1 ⟨rfl, hb⟩
          have T1 := Lib.hid (HW.out.later hb)
          have c11 := T1.out.one.get0 z11
          have d2 := T1.out.two.get0 y2
          have d3 := T1.out.two.get0 y3
          have d4 := T1.out.two.get0 y4
          clear hb
          go_wp2_with fail
          refine (at_n i.num v.list.length m HX.out _ (by omega) HD.out hx9.out).mono ?_
          rintro e w2 ⟨rfl, hb⟩
          have T2 := Lib.hid (T1.out.later hb)
          clear hb c11 d2 d3 d4
          have c11 := T2.out.one.get0 z11
          have hs2 := T2.out.size
          go_wp2_with (first
            | ((with_reducible show wpList _ _ _ (⟨some 69, _, _, _, _, _⟩ :: _) _ _); refine wpList_load_mid rfl 30 _ rfl b1 (o1 + m * 13) rfl cs1 _ (HC1.out.below T2.out.below hb1).range Tryd.underlying30 rfl hl1.out ?_)
            | ((with_reducible show wpList _ _ _ (⟨none, .store 30 (.tmp 4) _, _, _, _, _⟩ :: _) _ _); refine wpList_store_row rfl 30 _ _ rfl (w.heap.size + 1 + 1) cs1.toArray rfl rfl 30 zeroV T2.out.out (row_size hlen) (row_zero hlen) (row_ones HV1.out) ?_))
          refine bodyPost_ret (results_cell_row2 rfl _ _ (w.heap.size + 1 + 1) 30 _ (0, 0) _ rfl (setRow_heap _ _ _ _ _ _ T2.out.out) Tryd.underlying30 rfl (row_size hlen)) rfl ?_
          rw [HR.out]
          have HB9 := below_setRow T2.out.below (g := w.heap.size + 1 + 1) (by omega) cs1.toArray
          exact ⟨cs1, rfl, (HV1.out.below HB9).mono HB9.size, HB9⟩
    · by_cases hC : v.kind = 0 ∧ i.kind = 4
      · have HR := Lib.hid (show idxD v i = (zeroD, 0) by unfold idxD; rw [if_neg hA, if_pos hC])
        rw [hC.1] at z0
        rw [hC.2] at y0
        clear hA hB hC
        go_enter Tryd.func7, Tryd.ntmps7
        go_wp2_with ((with_reducible show wpList _ _ _ (⟨none, .store 30 (.tmp 4) _, _, _, _, _⟩ :: _) _ _); refine wpList_store_row rfl 30 _ _ rfl (w.heap.size + 1 + 1) zeroV rfl rfl 30 zeroV HW.out.out sizeZ rfl oneZ ?_)
        all_goals
          refine bodyPost_ret (results_cell_row2 rfl _ _ (w.heap.size + 1 + 1) 30 _ (0, 0) _ rfl (setRow_heap _ _ _ _ _ _ HW.out.out) Tryd.underlying30 rfl sizeZ) rfl ?_
          exact idx_zero HR.out (by omega) HW.out.below
      · have HR := Lib.hid (show idxD v i = (zeroD, 6) by unfold idxD; rw [if_neg hA, if_neg hC, if_neg hB])
        have hcase : (i.kind = 4 ∧ (v.kind == 7) = false ∧ (v.kind == 0) = false ∧ (i.kind != 2) = true) ∨ ((i.kind == 4) = false ∧ (i.kind != 2) = true) ∨ (i.kind = 2 ∧ (v.kind != 6) = true ∧ (v.kind != 0) = true ∧ (v.kind == 0) = false) := by
          simp only [beq_eq_false_iff_ne, bne_iff_ne, ne_eq]
          omega
        clear hA hB hC
        rcases hcase with ⟨g0, g1, g2, g3⟩ | ⟨g1, g2⟩ | ⟨g0, g1, g2, g3⟩
        all_goals
          try rw [g0] at y0
          try rw [g0] at g3
          go_enter Tryd.func7, Tryd.ntmps7
          go_wp2_with fail
          all_goals
            refine (none_ref 6 _).mono ?_
            rintro e w2 ⟨rfl, hb⟩
            have T2 := Lib.hid (HW.out.later hb)
            clear hb
            go_wp2_with ((with_reducible show wpList _ _ _ (⟨none, .store 30 (.tmp 4) _, _, _, _, _⟩ :: _) _ _); refine wpList_store_row rfl 30 _ _ rfl (w.heap.size + 1 + 1) zeroV rfl rfl 30 zeroV T2.out.out sizeZ rfl oneZ ?_)
            all_goals
              refine bodyPost_ret (results_cell_row2 rfl _ _ (w.heap.size + 1 + 1) 30 _ (0, 0) _ rfl (setRow_heap _ _ _ _ _ _ T2.out.out) Tryd.underlying30 rfl sizeZ) rfl ?_
              exact idx_zero HR.out (by omega) T2.out.below
end Go.Proofs.YtmbldgcbnkhabaaDoor
