/- builtin.Index: what it gives. -/
import Derived.Test.YtmbldgcbnkhabaaDoorIdx37b
import Derived.Test.YtmbldgcbnkhabaaDoorChk07
namespace Go.Proofs.YtmbldgcbnkhabaaDoor
open Go.RowKit

/-- What Index gives. -/
def idxD (v i : ValD) : ValD × Int :=
  if v.kind = 7 ∧ i.kind = 4 then (fieldV i.text v.fields, 0)
  else if v.kind = 0 ∧ i.kind = 4 then (zeroD, 0)
  else if (v.kind = 6 ∨ v.kind = 0) ∧ i.kind = 2 then
    if i.num.exp < 0 then (zeroD, 15) else if 0 ≤ atD i.num v.list.length then (v.list.getD (atD i.num v.list.length).toNat zeroD, 0) else (zeroD, 0)
  else (zeroD, 6)
def IdxR (N : Nat) (r : ValD × Int) (w : World) (e : Ending) (w' : World) : Prop := ∃ (cs : List Value), e = .returned (.tuple #[.agg cs.toArray, .int .i64 r.2]) ∧ ValD.At w' w'.heap.size N r.1 cs ∧ Below w.heap.size w w'
theorem whole_n (d : DecD) (x : Int) (h : whD d = x) (w : World) (hv : VDec d) : Calls Tryd.prog 18 #[.agg #[.bool d.neg, .string d.digits, .int .i64 d.exp]] w (fun e w' => e = .returned (.int .i64 x) ∧ Below w.heap.size w w') :=
  (whole_any d w hv).mono fun e w' hh => ⟨by rw [hh.1, h], hh.2⟩
theorem idx_zero {N : Nat} {w w1 : World} {g : Nat} {k : Int} {r : ValD × Int} (hr : r = (zeroD, k)) (hg : w.heap.size ≤ g) (hb : Below w.heap.size w w1) : IdxR N r w (.returned (.tuple #[.agg zeroV, .int .i64 k])) (w1.setRow g zeroV) := by
  rw [hr]
  exact ⟨zeroV.toList, rfl, zeroD_at _ _ _, below_setRow hb hg _⟩

/-- Three boxes: two values, and the zero value for the result. -/
structure Three (w W : World) (cs ds : List Value) : Prop where
  below : Below w.heap.size w W
  one : CellsAt W w.heap.size 0 cs
  two : CellsAt W (w.heap.size + 1) 0 ds
  out : RowAt W (w.heap.size + 1 + 1) zeroV.toList
  size : w.heap.size + 3 ≤ W.heap.size
theorem Three.later {w W W' : World} {cs ds : List Value} (h : Three w W cs ds) (hb : Below W.heap.size W W') : Three w W' cs ds :=
  ⟨belowThen h.below hb, h.one.below hb (by have := h.size; omega), h.two.below hb (by have := h.size; omega), h.out.below hb (by have := h.size; omega), Nat.le_trans h.size hb.size⟩
theorem three_boxes (w : World) (cs ds : List Value) (n : Nat) : Three w ((((w.alloc (.cells cs.toArray 30)).alloc (.cells ds.toArray 30)).alloc (.cells zeroV 30)).drewN n) cs ds := by
  have hs1 : (w.alloc (.cells cs.toArray 30)).heap.size = w.heap.size + 1 := by rw [World.size_alloc]
  have hs2 : ((w.alloc (.cells cs.toArray 30)).alloc (.cells ds.toArray 30)).heap.size = w.heap.size + 2 := by rw [World.size_alloc, World.size_alloc]
  have hs3 : (((w.alloc (.cells cs.toArray 30)).alloc (.cells ds.toArray 30)).alloc (.cells zeroV 30)).heap.size = w.heap.size + 3 := by rw [World.size_alloc, World.size_alloc, World.size_alloc]
  refine Three.later (W := ((w.alloc (.cells cs.toArray 30)).alloc (.cells ds.toArray 30)).alloc (.cells zeroV 30)) ⟨belowThen (belowThen (belowBox w _) (belowBox _ _)) (belowBox _ _), ((box_at w cs 30).then (belowBox _ _) (by omega)).then (belowBox _ _) (by omega), ?_, ?_, by omega⟩ (below_drewN _ _)
  · have := box_at (w.alloc (.cells cs.toArray 30)) ds 30
    rw [hs1] at this
    exact this.then (belowBox _ _) (by omega)
  · have := heap_alloc_new ((w.alloc (.cells cs.toArray 30)).alloc (.cells ds.toArray 30)) (.cells zeroV 30)
    rw [hs2] at this
    exact this

set_option maxRecDepth 100000 in
set_option maxHeartbeats 6400000 in
theorem index_prog (v i : ValD) (w : World) (N : Nat) (cs ds : List Value) (hN : N ≤ 4294967296) (hf : fitsV 60 v) (hd : VDec i.num) (hl0 : v.kind ≠ 6 → v.list = []) (hv : ValD.At w w.heap.size N v cs) (hu : ValD.At w w.heap.size N i ds) :
    Calls Tryd.prog 6 #[.agg cs.toArray, .agg ds.toArray] w (IdxR N (idxD v i) w) := by
  obtain ⟨ya, la, va, yc, lc, vc, hh⟩ := hv.has
  obtain ⟨yb, lb, vb, yd, ld, vd, hg⟩ := hu.has
  have hll : v.list.length ≤ N := hh.own.2.2.2.2.2.2.2.2.2.1
  have HH := Lib.hid hh
  have HG := Lib.hid hg
  have HV := Lib.hid hv
  have HU := Lib.hid hu
  have HF := Lib.hid hf
  have HD := Lib.hid hd
  have HL0 := Lib.hid hl0
  have hl := Lib.hid (show (Tryd.prog.info? 30).map (·.size) = some cs.length by rw [hv.len]; exact sizeV)
  clear hv hu hf hd hl0 hh hg
  have HW := Lib.hid (three_boxes w cs ds)
  have z0 := HH.out.kind
  have z11 := HH.out.list
  have y0 := HG.out.kind
  have y2 := HG.out.neg
  have y3 := HG.out.digits
  have y4 := HG.out.exp
  have y9 := HG.out.text
  by_cases hA : v.kind = 7 ∧ i.kind = 4
  · have HR := Lib.hid (show idxD v i = (fieldV i.text v.fields, 0) by unfold idxD; rw [if_pos hA])
    have HK := Lib.hid hA.1
    rw [hA.1] at z0
    rw [hA.2] at y0
    clear hA
    go_enter Tryd.func6, Tryd.ntmps6
    go_wp2_with fail
    go_quiet (fail)
    go_wp2_with ((with_reducible show wpList _ _ _ (⟨some 56, _, _, _, _, _⟩ :: _) _ _); refine wpList_load_mid rfl 30 _ rfl w.heap.size 0 rfl cs _ (HW.out _).one.range Tryd.underlying30 rfl hl.out ?_)
    refine (field_prog 59 v i.text _ w.heap.size N cs (by omega) HF.out hN (HW.out _).below.size HK.out (HV.out.below (HW.out _).below)).mono ?_
    rintro e w1 ⟨cs2, b, rfl, hat, hb⟩
    have T1 := Lib.hid ((HW.out _).later hb)
    have A1 := Lib.hid hat.here
    have AS := Lib.hid hat
    have hlen := hat.here.len
    have hl2 := Lib.hid (show (Tryd.prog.info? 30).map (·.size) = some cs2.length by rw [hat.here.len]; exact sizeV)
    have hs1 := T1.out.size
    clear hat hb
    go_wp2_with (first
      | ((with_reducible show wpList _ _ _ (⟨none, .store 30 (.tmp 8) _, _, _, _, _⟩ :: _) _ _); refine wpList_store_new rfl 30 _ _ rfl zeroV cs2.toArray rfl rfl (row_size hlen) (row_zero hlen) (row_ones A1.out) ?_)
      | ((with_reducible show wpList _ _ _ (⟨some 62, _, _, _, _, _⟩ :: _) _ _); refine wpList_load_mid rfl 30 _ rfl w1.heap.size 0 rfl cs2 _ (box_at w1 cs2 30).range Tryd.underlying30 rfl hl2.out ?_)
      | ((with_reducible show wpList _ _ _ (⟨none, .store 30 (.tmp 4) _, _, _, _, _⟩ :: _) _ _); refine wpList_store_row rfl 30 _ _ rfl (w.heap.size + 1 + 1) cs2.toArray rfl rfl 30 zeroV (T1.out.out.alloc (by omega) _) (row_size hlen) (row_zero hlen) (row_ones A1.out) ?_))
    refine bodyPost_ret (results_cell_row2 rfl _ _ (w.heap.size + 1 + 1) 30 _ (0, 0) _ rfl (setRow_heap _ _ _ _ _ _ (T1.out.out.alloc (by omega) _)) Tryd.underlying30 rfl (row_size hlen)) rfl ?_
    rw [HR.out]
    refine ⟨cs2, rfl, ?_, below_setRow (belowThen T1.out.below (belowBox _ _)) (by omega) _⟩
    exact AS.out _ (Apart.of_setRow _ _ (by omega) (by have := (HW.out nq).size; omega))
  · by_cases hB : (v.kind = 6 ∨ v.kind = 0) ∧ i.kind = 2
    · by_cases hx : i.num.exp < 0
      · have HR := Lib.hid (show idxD v i = (zeroD, 15) by unfold idxD; rw [if_neg hA, if_neg (by omega), if_pos hB, if_pos hx])
        have hx2 := Lib.hid (show decide (0 ≤ i.num.exp) = false by simpa using hx)
        obtain ⟨hB1, hB2⟩ := hB
        rw [hB2] at y0
        clear hA hB2 hx
        rcases hB1 with hB1 | hB1
        all_goals
          rw [hB1] at z0
          clear hB1
          go_enter Tryd.func6, Tryd.ntmps6
          go_wp2_with fail
          go_quiet (fail)
          go_wp2_with fail
          refine (whole_prog i.num false _ hx2.out).mono ?_
          rintro e w1 ⟨rfl, hb⟩
          have T1 := Lib.hid ((HW.out _).later hb)
          clear hb
          go_wp2_with ((with_reducible show wpList _ _ _ (⟨none, .store 30 (.tmp 4) _, _, _, _, _⟩ :: _) _ _); refine wpList_store_row rfl 30 _ _ rfl (w.heap.size + 1 + 1) zeroV rfl rfl 30 zeroV T1.out.out sizeZ rfl oneZ ?_)
          refine bodyPost_ret (results_cell_row2 rfl _ _ (w.heap.size + 1 + 1) 30 _ (0, 0) _ rfl (setRow_heap _ _ _ _ _ _ T1.out.out) Tryd.underlying30 rfl sizeZ) rfl ?_
          exact idx_zero HR.out (by omega) T1.out.below
      · have hx2 := Lib.hid (show decide (0 ≤ i.num.exp) = true by simp; omega)
        obtain ⟨hB1, hB2⟩ := hB
        have HRR := Lib.hid (show idxD v i = if 0 ≤ atD i.num v.list.length then (v.list.getD (atD i.num v.list.length).toNat zeroD, 0) else (zeroD, 0) by unfold idxD; rw [if_neg hA, if_neg (by omega), if_pos ⟨hB1, hB2⟩, if_neg hx])
        rw [hB2] at y0
        have hw := Lib.hid (atD_wh i.num v.list.length (by omega))
        have hr := whD_range i.num
        obtain ⟨x, hx3⟩ : ∃ x, whD i.num = x := ⟨_, rfl⟩
        rw [hx3] at hr
        have HX := Lib.hid hx3
        clear hA hB2 hx hx3
        have hcase : (x < 0 ∧ x + v.list.length < 0) ∨ (0 ≤ x ∧ (v.list.length : Int) ≤ x) ∨ (x < 0 ∧ 0 ≤ x + v.list.length) ∨ (0 ≤ x ∧ x < v.list.length) := by omega
        have HC := Lib.hid hcase
        by_cases hmiss : (x < 0 ∧ x + v.list.length < 0) ∨ (0 ≤ x ∧ (v.list.length : Int) ≤ x)
        · have HR := Lib.hid (show idxD v i = (zeroD, 0) by
            have h1 := hw.out
            rw [HX.out] at h1
            have h2 : atD i.num v.list.length = -1 := by
              rcases hmiss with ⟨g1, g2⟩ | ⟨g1, g2⟩
              · exact (h1.1 g1).1 g2
              · exact (h1.2 g1).2 g2
            rw [HRR.out, h2, if_neg (by omega)])
          clear hcase
          rcases hB1 with hB1 | hB1 <;> rcases hmiss with ⟨g1, g2⟩ | ⟨g1, g2⟩
          all_goals
            rw [hB1] at z0
            clear hB1
            go_enter Tryd.func6, Tryd.ntmps6
            go_wp2_with fail
            go_quiet (fail)
            go_wp2_with fail
            refine (whole_prog i.num true _ hx2.out).mono ?_
            rintro e w1 ⟨rfl, hb⟩
            have T1 := Lib.hid ((HW.out _).later hb)
            have c0 := T1.out.one.get0 z0
            have d2 := T1.out.two.get0 y2
            have d3 := T1.out.two.get0 y3
            have d4 := T1.out.two.get0 y4
            clear hb
            go_wp2_with fail
            refine (whole_n i.num x HX.out _ HD.out).mono ?_
            rintro e w2 ⟨rfl, hb⟩
            have T2 := Lib.hid (T1.out.later hb)
            have c11 := T2.out.one.get0 z11
            clear hb c0 d2 d3 d4
            go_wp2_with ((with_reducible show wpList _ _ _ (⟨none, .store 30 (.tmp 4) _, _, _, _, _⟩ :: _) _ _); refine wpList_store_row rfl 30 _ _ rfl (w.heap.size + 1 + 1) zeroV rfl rfl 30 zeroV T2.out.out sizeZ rfl oneZ ?_)
            refine bodyPost_ret (results_cell_row2 rfl _ _ (w.heap.size + 1 + 1) 30 _ (0, 0) _ rfl (setRow_heap _ _ _ _ _ _ T2.out.out) Tryd.underlying30 rfl sizeZ) rfl ?_
            exact idx_zero HR.out (by omega) T2.out.below
        · have hL : 0 < v.list.length := by omega
          have hB6 : v.kind = 6 := by
            rcases hB1 with h | h
            · exact h
            · have := HL0.out (by omega)
              rw [this] at hL
              simp at hL
          rw [hB6] at z0
          obtain ⟨m, hm, hmx⟩ : ∃ m : Nat, m < v.list.length ∧ ((x < 0 ∧ x + (v.list.length : Int) = (m : Int)) ∨ x = (m : Int)) := by
            by_cases h : x < 0
            · exact ⟨(x + v.list.length).toNat, by omega, .inl ⟨h, by omega⟩⟩
            · exact ⟨x.toNat, by omega, .inr (by omega)⟩
          have HR := Lib.hid (show idxD v i = (v.list[m], 0) by
            have h1 := hw.out
            rw [HX.out] at h1
            have h2 : atD i.num v.list.length = m := by
              rcases hmx with ⟨g1, g2⟩ | g1
              · rw [(h1.1 g1).2 (by omega), g2]
              · rw [(h1.2 (by omega)).1 (by omega), g1]
            rw [HRR.out, h2, if_pos (by omega), Int.toNat_natCast, List.getD_eq_getElem?_getD, List.getElem?_eq_getElem hm]
            rfl)
          obtain ⟨b1, o1, rfl, hb1, hget1⟩ := HH.out.atList.get (by intro h; simp [h] at hL)
          obtain ⟨cs1, h1, h2⟩ := hget1 m hm
          have HV1 := Lib.hid h2
          have HC1 := Lib.hid h1
          have hl1 := Lib.hid (show (Tryd.prog.info? 30).map (·.size) = some cs1.length by rw [h2.len]; exact sizeV)
          have HFC := Lib.hid (HF.out.1 v.list[m] (List.getElem_mem hm))
          clear hcase hmiss hB1 hB6 hget1 h1 h2
          rcases hmx with ⟨g1, g2⟩ | rfl
          all_goals
            go_enter Tryd.func6, Tryd.ntmps6
            go_wp2_with fail
            go_quiet (fail)
            go_wp2_with fail
            refine (whole_prog i.num true _ hx2.out).mono ?_
            rintro e w1 ⟨rfl, hb⟩
            have T1 := Lib.hid ((HW.out _).later hb)
            have c0 := T1.out.one.get0 z0
            have d2 := T1.out.two.get0 y2
            have d3 := T1.out.two.get0 y3
            have d4 := T1.out.two.get0 y4
            clear hb
            go_wp2_with fail
            refine (whole_n i.num _ HX.out _ HD.out).mono ?_
            rintro e w2 ⟨rfl, hb⟩
            have T2 := Lib.hid (T1.out.later hb)
            have c11 := T2.out.one.get0 z11
            have hs2 := T2.out.size
            clear hb c0 d2 d3 d4
            go_wp2_with ((with_reducible show wpList _ _ _ (⟨some 87, _, _, _, _, _⟩ :: _) _ _); refine wpList_load_mid rfl 30 _ rfl b1 (o1 + m * 13) rfl cs1 _ (HC1.out.below T2.out.below hb1).range Tryd.underlying30 rfl hl1.out ?_)
            refine (copy_ex 59 _ _ w.heap.size N cs1 (by omega) HFC.out hN T2.out.below.size (HV1.out.below T2.out.below)).mono ?_
            rintro e w3 ⟨cs2, rfl, hsafe, hb⟩
            have T3 := Lib.hid (T2.out.later hb)
            have A1 := Lib.hid hsafe.here
            have AS := Lib.hid hsafe
            have hlen := hsafe.here.len
            clear hsafe hb
            go_wp2_with ((with_reducible show wpList _ _ _ (⟨none, .store 30 (.tmp 4) _, _, _, _, _⟩ :: _) _ _); refine wpList_store_row rfl 30 _ _ rfl (w.heap.size + 1 + 1) cs2.toArray rfl rfl 30 zeroV T3.out.out (row_size hlen) (row_zero hlen) (row_ones A1.out) ?_)
            refine bodyPost_ret (results_cell_row2 rfl _ _ (w.heap.size + 1 + 1) 30 _ (0, 0) _ rfl (setRow_heap _ _ _ _ _ _ T3.out.out) Tryd.underlying30 rfl (row_size hlen)) rfl ?_
            rw [HR.out]
            exact ⟨cs2, rfl, AS.out _ (keep_setRow w3 (w.heap.size + 1 + 1) _ _ (by omega)), below_setRow T3.out.below (by omega) _⟩
    · by_cases hC : v.kind = 0 ∧ i.kind = 4
      · have HR := Lib.hid (show idxD v i = (zeroD, 0) by unfold idxD; rw [if_neg hA, if_pos hC])
        have hL : v.list.length = 0 := by rw [HL0.out (by omega)]; rfl
        have z11' : cs[11]? = some (.slice la 0 lc) := by rw [z11, hL]
        rw [hC.1] at z0
        rw [hC.2] at y0
        have hr := whD_range i.num
        obtain ⟨x, hx3⟩ : ∃ x, whD i.num = x := ⟨_, rfl⟩
        rw [hx3] at hr
        have HX := Lib.hid hx3
        clear hA hB hC hx3 z11 hL
        have hcase : x < 0 ∨ 0 ≤ x := by omega
        rcases hcase with g1 | g1
        all_goals
          go_enter Tryd.func6, Tryd.ntmps6
          go_wp2_with fail
          go_quiet (fail)
          go_wp2_with fail
          refine (whole_n i.num x HX.out _ HD.out).mono ?_
          rintro e w2 ⟨rfl, hb⟩
          have T2 := Lib.hid ((HW.out _).later hb)
          have c11 := T2.out.one.get0 z11'
          clear hb
          go_wp2_with ((with_reducible show wpList _ _ _ (⟨none, .store 30 (.tmp 4) _, _, _, _, _⟩ :: _) _ _); refine wpList_store_row rfl 30 _ _ rfl (w.heap.size + 1 + 1) zeroV rfl rfl 30 zeroV T2.out.out sizeZ rfl oneZ ?_)
          refine bodyPost_ret (results_cell_row2 rfl _ _ (w.heap.size + 1 + 1) 30 _ (0, 0) _ rfl (setRow_heap _ _ _ _ _ _ T2.out.out) Tryd.underlying30 rfl sizeZ) rfl ?_
          exact idx_zero HR.out (by omega) T2.out.below
      · have HR := Lib.hid (show idxD v i = (zeroD, 6) by unfold idxD; rw [if_neg hA, if_neg hC, if_neg hB])
        have hcase : ((i.kind == 4) = false ∧ (i.kind == 2) = false) ∨ (i.kind = 4 ∧ (v.kind == 7) = false ∧ (v.kind == 0) = false) ∨ (i.kind = 2 ∧ (v.kind == 6) = false ∧ (v.kind == 0) = false) := by
          simp only [beq_eq_false_iff_ne, ne_eq]
          omega
        clear hA hB hC
        rcases hcase with ⟨g1, g2⟩ | ⟨g0, g1, g2⟩ | ⟨g0, g1, g2⟩
        · go_enter Tryd.func6, Tryd.ntmps6
          go_wp2_with fail
          go_quiet (fail)
          go_wp2_with ((with_reducible show wpList _ _ _ (⟨none, .store 30 (.tmp 4) _, _, _, _, _⟩ :: _) _ _); refine wpList_store_row rfl 30 _ _ rfl (w.heap.size + 1 + 1) zeroV rfl rfl 30 zeroV (HW.out _).out sizeZ rfl oneZ ?_)
          all_goals
            refine bodyPost_ret (results_cell_row2 rfl _ _ (w.heap.size + 1 + 1) 30 _ (0, 0) _ rfl (setRow_heap _ _ _ _ _ _ (HW.out _).out) Tryd.underlying30 rfl sizeZ) rfl ?_
            exact idx_zero HR.out (by omega) (HW.out _).below
        all_goals
          rw [g0] at y0
          go_enter Tryd.func6, Tryd.ntmps6
          go_wp2_with fail
          go_quiet (fail)
          go_wp2_with ((with_reducible show wpList _ _ _ (⟨none, .store 30 (.tmp 4) _, _, _, _, _⟩ :: _) _ _); refine wpList_store_row rfl 30 _ _ rfl (w.heap.size + 1 + 1) zeroV rfl rfl 30 zeroV (HW.out _).out sizeZ rfl oneZ ?_)
          all_goals
            refine bodyPost_ret (results_cell_row2 rfl _ _ (w.heap.size + 1 + 1) 30 _ (0, 0) _ rfl (setRow_heap _ _ _ _ _ _ (HW.out _).out) Tryd.underlying30 rfl sizeZ) rfl ?_
            exact idx_zero HR.out (by omega) (HW.out _).below
end Go.Proofs.YtmbldgcbnkhabaaDoor
