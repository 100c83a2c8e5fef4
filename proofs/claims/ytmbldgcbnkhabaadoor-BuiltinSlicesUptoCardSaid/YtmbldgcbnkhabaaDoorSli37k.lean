/- builtin.Slice: what it gives. -/
import Derived.Test.YtmbldgcbnkhabaaDoorSli37j
import Derived.Deep.RegionHeld
import Derived.Deep.MidRow
namespace Go.Proofs.YtmbldgcbnkhabaaDoor
open Go.RowKit

/-- Four boxes: three values, and the zero value for the result. -/
structure Four (w W : World) (cs ds es : List Value) : Prop where
  below : Below w.heap.size w W
  one : CellsAt W w.heap.size 0 cs
  two : CellsAt W (w.heap.size + 1) 0 ds
  three : CellsAt W (w.heap.size + 1 + 1) 0 es
  out : RowAt W (w.heap.size + 1 + 1 + 1) zeroV.toList
  size : w.heap.size + 4 ≤ W.heap.size
theorem Four.later {w W W' : World} {cs ds es : List Value} (h : Four w W cs ds es) (hb : Below W.heap.size W W') : Four w W' cs ds es :=
  ⟨belowThen h.below hb, h.one.below hb (by have := h.size; omega), h.two.below hb (by have := h.size; omega), h.three.below hb (by have := h.size; omega), h.out.below hb (by have := h.size; omega), Nat.le_trans h.size hb.size⟩
theorem four_boxes (w : World) (cs ds es : List Value) : Four w ((((w.alloc (.cells cs.toArray 30)).alloc (.cells ds.toArray 30)).alloc (.cells es.toArray 30)).alloc (.cells zeroV 30)) cs ds es := by
  have hs1 : (w.alloc (.cells cs.toArray 30)).heap.size = w.heap.size + 1 := by rw [World.size_alloc]
  have hs2 : ((w.alloc (.cells cs.toArray 30)).alloc (.cells ds.toArray 30)).heap.size = w.heap.size + 2 := by rw [World.size_alloc, World.size_alloc]
  have hs3 : (((w.alloc (.cells cs.toArray 30)).alloc (.cells ds.toArray 30)).alloc (.cells es.toArray 30)).heap.size = w.heap.size + 3 := by rw [World.size_alloc, World.size_alloc, World.size_alloc]
  have hs4 : ((((w.alloc (.cells cs.toArray 30)).alloc (.cells ds.toArray 30)).alloc (.cells es.toArray 30)).alloc (.cells zeroV 30)).heap.size = w.heap.size + 4 := by rw [World.size_alloc, World.size_alloc, World.size_alloc, World.size_alloc]
  refine ⟨belowThen (belowThen (belowThen (belowBox w _) (belowBox _ _)) (belowBox _ _)) (belowBox _ _), (((box_at w cs 30).then (belowBox _ _) (by omega)).then (belowBox _ _) (by omega)).then (belowBox _ _) (by omega), ?_, ?_, ?_, by omega⟩
  · have := box_at (w.alloc (.cells cs.toArray 30)) ds 30
    rw [hs1] at this
    exact (this.then (belowBox _ _) (by omega)).then (belowBox _ _) (by omega)
  · have := box_at ((w.alloc (.cells cs.toArray 30)).alloc (.cells ds.toArray 30)) es 30
    rw [hs2] at this
    exact this.then (belowBox _ _) (by omega)
  · have := heap_alloc_new (((w.alloc (.cells cs.toArray 30)).alloc (.cells ds.toArray 30)).alloc (.cells es.toArray 30)) (.cells zeroV 30)
    rw [hs3] at this
    exact this

theorem fold_zipG : ∀ (cs : List Value) (n : Nat) (Z : Array Value), n + cs.length ≤ Z.size → (List.foldl (fun (a : Array Value) (x : Value × Nat) => a.setIfInBounds x.2 x.1) Z (cs.zipIdx n)).toList = Z.toList.take n ++ cs ++ Z.toList.drop (n + cs.length)
  | [], n, Z, h => by simp
  | c :: cs, n, Z, h => by
    have hn : n < Z.size := by simp at h; omega
    rw [List.zipIdx_cons, List.foldl_cons, fold_zipG cs (n + 1) _ (by simp at h ⊢; omega)]
    have h1 : (Z.setIfInBounds n c).toList.take (n + 1) = Z.toList.take n ++ [c] := by
      have hl : n < (Z.setIfInBounds n c).toList.length := by simpa using hn
      rw [List.take_succ_eq_append_getElem hl]
      congr 1
      · rw [Array.toList_setIfInBounds, List.take_set_of_le (Nat.le_refl _)]
      · simp
    have h2 : (Z.setIfInBounds n c).toList.drop (n + 1 + cs.length) = Z.toList.drop (n + (c :: cs).length) := by
      rw [Array.toList_setIfInBounds, List.drop_set_of_lt (by omega), List.length_cons]
      congr 1
      omega
    rw [h1, h2]
    simp
theorem fold_shift (k : Nat) : ∀ (cs : List Value) (n : Nat) (Z : Array Value), List.foldl (fun (a : Array Value) (x : Value × Nat) => a.setIfInBounds (k + x.2) x.1) Z (cs.zipIdx n) = List.foldl (fun (a : Array Value) (x : Value × Nat) => a.setIfInBounds x.2 x.1) Z (cs.zipIdx (k + n))
  | [], n, Z => rfl
  | c :: cs, n, Z => by
    rw [List.zipIdx_cons, List.zipIdx_cons, List.foldl_cons, List.foldl_cons, fold_shift k cs (n + 1)]
    rfl
theorem fold_two (ds es : List Value) (Z : Array Value) (h1 : ds.length = 13) (h2 : es.length = 13) (h : Z.size = 26) :
    List.foldl (fun (a : Array Value) (x : Value × Nat) => a.setIfInBounds (13 + x.2) x.1) (List.foldl (fun (a : Array Value) (x : Value × Nat) => a.setIfInBounds x.2 x.1) Z ds.zipIdx) es.zipIdx = (ds ++ es).toArray := by
  obtain ⟨Y, hY⟩ : ∃ Y, List.foldl (fun (a : Array Value) (x : Value × Nat) => a.setIfInBounds x.2 x.1) Z ds.zipIdx = Y := ⟨_, rfl⟩
  have g1 := fold_zipG ds 0 Z (by omega)
  rw [hY] at g1 ⊢
  have hl : Y.size = 26 := by
    rw [← Array.length_toList, g1]
    simp
    omega
  rw [fold_shift 13 es 0 Y]
  apply Array.ext'
  rw [fold_zipG es (13 + 0) Y (by omega), List.drop_of_length_le (by rw [Array.length_toList, hl, h2]; omega), g1]
  rw [List.take_zero, List.nil_append, List.take_append_of_le_length (by omega), List.take_of_length_le (by omega), List.append_nil]
theorem fold_size (ds : List Value) (Z : Array Value) (h1 : ds.length = 13) (h : Z.size = 26) : (List.foldl (fun (a : Array Value) (x : Value × Nat) => a.setIfInBounds x.2 x.1) Z ds.zipIdx).size = 26 := by
  have g1 := fold_zipG ds 0 Z (by omega)
  rw [← Array.length_toList, g1]
  simp
  omega
theorem yieldsIf_move {P : Program} {ops : Array Oper} {S : World → Prop} {op : Oper} {a : Act} (hw : Region.wanted op (yielded ops a.tmps) = true) (x : Operand) (ho : op.op = .move x) (v : Value) (hx : a.eval x = v) : YieldsIf P ops S op v a :=
  .inl ⟨hw, fun w _ => by
    unfold execOp
    simp only [ho, hx]
    rfl⟩
theorem bound_n (v : ValD) (n u i : Nat) (h : bndD v n u = i) (w : World) (B N : Nat) (cs : List Value) (hn : n ≤ 4294967296) (hd : VDec v.num) (hv : ValD.At w B N v cs) :
    Calls Tryd.prog 27 #[.agg cs.toArray, .int .i64 n, .int .i64 u] w (IntB i w) := by rw [← h]; exact bound_prog v n u w B N cs hn hd hv
/-- Two rows of a block. -/
def PickAt (w : World) (g : Nat) (ds es : List Value) : Prop := CellsAt w g 0 ds ∧ CellsAt w g 13 es
theorem PickAt.below {w w' : World} {g : Nat} {ds es : List Value} (h : PickAt w g ds es) (hb : Below w.heap.size w w') (hg : g < w.heap.size) : PickAt w' g ds es := ⟨h.1.below hb hg, h.2.below hb hg⟩
theorem pick_new (w : World) (ds es : List Value) (h1 : ds.length = 13) : PickAt (w.alloc (.cells (ds ++ es).toArray 30)) w.heap.size ds es := by
  have h := box_at w (ds ++ es) 30
  refine ⟨fun j hj => ?_, fun j hj => ?_⟩
  · have := h j (by simp; omega)
    rw [List.getElem?_append_left hj] at this
    exact this
  · have := h (13 + j) (by simp; omega)
    rw [List.getElem?_append_right (by omega), h1, Nat.add_sub_cancel_left, Nat.zero_add] at this
    exact this

set_option maxRecDepth 100000 in
set_option maxHeartbeats 6400000 in
theorem slice_prog_no (v a b : ValD) (w : World) (N : Nat) (cs ds es : List Value) (hT : Lib.Utf8Tabs 0 1 w) (hf : fitsV 60 v) (hda : VDec a.num) (hdb : VDec b.num) (hvs : validS v.text = true)
    (hl0 : v.kind ≠ 6 → v.list = []) (ht0 : v.kind ≠ 4 → v.text.size = 0) (hcap : ∀ x n c, cs[11]? = some (.slice x n c) → n ≤ c) (hv : ValD.At w w.heap.size N v cs) (ha : ValD.At w w.heap.size N a ds) (hb : ValD.At w w.heap.size N b es) (hA : v.kind ≠ 0 ∧ v.kind ≠ 4 ∧ v.kind ≠ 6) :
    Calls Tryd.prog 12 #[.agg cs.toArray, .agg ds.toArray, .agg es.toArray] w (IdxR N (slcD v a b) w) := by
  obtain ⟨ya, la, va, yc, lc, vc, hh⟩ := hv.has
  have hll : v.list.length ≤ N := hh.own.2.2.2.2.2.2.2.2.2.1
  have HLC := Lib.hid (hcap _ _ _ hh.list)
  have HH := Lib.hid hh
  have HV := Lib.hid hv
  have HA := Lib.hid ha
  have HB := Lib.hid hb
  have HF := Lib.hid hf
  have HDA := Lib.hid hda
  have HDB := Lib.hid hdb
  have HL0 := Lib.hid hl0
  have HT0 := Lib.hid ht0
  have HT := Lib.hid hT
  have HVS := Lib.hid hvs
  have hl := Lib.hid (show (Tryd.prog.info? 30).map (·.size) = some cs.length by rw [hv.len]; exact sizeV)
  have hl2 := Lib.hid (show (Tryd.prog.info? 30).map (·.size) = some ds.length by rw [ha.len]; exact sizeV)
  have hl3 := Lib.hid (show (Tryd.prog.info? 30).map (·.size) = some es.length by rw [hb.len]; exact sizeV)
  have hlen2 := ha.len
  have hlen3 := hb.len
  clear hv ha hb hf hda hdb hl0 ht0 hcap hT hvs hh
  have HW := Lib.hid (four_boxes w cs ds es)
  have z0 := HH.out.kind
  have HR := Lib.hid (show slcD v a b = (zeroD, 6) by unfold slcD; rw [if_pos hA])
  obtain ⟨k, hk⟩ : ∃ k, v.kind = k := ⟨_, rfl⟩
  rw [hk] at z0 hA
  obtain ⟨h1, h2, h3⟩ := hA
  have g1 : (k == 0) = false := by simpa using h1
  have g2 : (k == 4) = false := by simpa using h2
  have g3 : (k == 6) = false := by simpa using h3
  have g4 : (k != 0) = true := by simpa using h1
  have g5 : (k != 4) = true := by simpa using h2
  have g6 : (k != 6) = true := by simpa using h3
  clear hk h1 h2 h3
  go_enter Tryd.func12, Tryd.ntmps12
  go_wp2_with ((with_reducible show wpList _ _ _ (⟨none, .store 30 (.tmp 6) _, _, _, _, _⟩ :: _) _ _); refine wpList_store_row rfl 30 _ _ rfl (w.heap.size + 1 + 1 + 1) zeroV rfl rfl 30 zeroV HW.out.out sizeZ rfl oneZ ?_)
  refine bodyPost_ret (results_cell_row2 rfl _ _ (w.heap.size + 1 + 1 + 1) 30 _ (0, 0) _ rfl (setRow_heap _ _ _ _ _ _ HW.out.out) Tryd.underlying30 rfl sizeZ) rfl ?_
  exact idx_zero HR.out (by omega) HW.out.below

set_option maxRecDepth 100000 in
set_option maxHeartbeats 6400000 in
theorem slice_prog0 (v a b : ValD) (w : World) (N : Nat) (cs ds es : List Value) (hT : Lib.Utf8Tabs 0 1 w) (hf : fitsV 60 v) (hda : VDec a.num) (hdb : VDec b.num) (hvs : validS v.text = true)
    (hl0 : v.kind ≠ 6 → v.list = []) (ht0 : v.kind ≠ 4 → v.text.size = 0) (hcap : ∀ x n c, cs[11]? = some (.slice x n c) → n ≤ c) (hv : ValD.At w w.heap.size N v cs) (ha : ValD.At w w.heap.size N a ds) (hb : ValD.At w w.heap.size N b es) (hk : v.kind = 0) :
    Calls Tryd.prog 12 #[.agg cs.toArray, .agg ds.toArray, .agg es.toArray] w (IdxR N (slcD v a b) w) := by
  obtain ⟨ya, la, va, yc, lc, vc, hh⟩ := hv.has
  have hll : v.list.length ≤ N := hh.own.2.2.2.2.2.2.2.2.2.1
  have HLC := Lib.hid (hcap _ _ _ hh.list)
  have HH := Lib.hid hh
  have HV := Lib.hid hv
  have HA := Lib.hid ha
  have HB := Lib.hid hb
  have HF := Lib.hid hf
  have HDA := Lib.hid hda
  have HDB := Lib.hid hdb
  have HL0 := Lib.hid hl0
  have HT0 := Lib.hid ht0
  have HT := Lib.hid hT
  have HVS := Lib.hid hvs
  have hl := Lib.hid (show (Tryd.prog.info? 30).map (·.size) = some cs.length by rw [hv.len]; exact sizeV)
  have hl2 := Lib.hid (show (Tryd.prog.info? 30).map (·.size) = some ds.length by rw [ha.len]; exact sizeV)
  have hl3 := Lib.hid (show (Tryd.prog.info? 30).map (·.size) = some es.length by rw [hb.len]; exact sizeV)
  have hlen2 := ha.len
  have hlen3 := hb.len
  clear hv ha hb hf hda hdb hl0 ht0 hcap hT hvs hh
  have HW := Lib.hid (four_boxes w cs ds es)
  have z0 := HH.out.kind
  have hA : ¬ (v.kind ≠ 0 ∧ v.kind ≠ 4 ∧ v.kind ≠ 6) := by omega
  have HE1 := Lib.hid (show bndE a ≠ 0 → slcD v a b = (zeroD, bndE a) from fun h => by unfold slcD; rw [if_neg hA, if_pos h])
  have HE2 := Lib.hid (show bndE a = 0 → bndE b ≠ 0 → slcD v a b = (zeroD, bndE b) from fun h1 h2 => by unfold slcD; rw [if_neg hA, if_neg (by omega), if_pos h2])
  have HK := Lib.hid hk
  rw [hk] at z0
  clear hA hk
  have hfz := fold_two ds es #[.int .i64 0, .bool false, .bool false, .string ⟨#[]⟩, .int .i64 0, .int .i64 0, .int .i64 0, .int .i64 0, .int .i64 0, .string ⟨#[]⟩, .slice none 0 0, .slice none 0 0, .slice none 0 0, .int .i64 0, .bool false, .bool false, .string ⟨#[]⟩, .int .i64 0, .int .i64 0, .int .i64 0, .int .i64 0, .int .i64 0, .string ⟨#[]⟩, .slice none 0 0, .slice none 0 0, .slice none 0 0] hlen2 hlen3 rfl
  have hfs := fold_size ds #[.int .i64 0, .bool false, .bool false, .string ⟨#[]⟩, .int .i64 0, .int .i64 0, .int .i64 0, .int .i64 0, .int .i64 0, .string ⟨#[]⟩, .slice none 0 0, .slice none 0 0, .slice none 0 0, .int .i64 0, .bool false, .bool false, .string ⟨#[]⟩, .int .i64 0, .int .i64 0, .int .i64 0, .int .i64 0, .int .i64 0, .string ⟨#[]⟩, .slice none 0 0, .slice none 0 0, .slice none 0 0] hlen2 rfl
  have HP := Lib.hid (pick_new ((((w.alloc (.cells cs.toArray 30)).alloc (.cells ds.toArray 30)).alloc (.cells es.toArray 30)).alloc (.cells zeroV 30)) ds es hlen2)
  have HS4 := Lib.hid (show ((((w.alloc (.cells cs.toArray 30)).alloc (.cells ds.toArray 30)).alloc (.cells es.toArray 30)).alloc (.cells zeroV 30)).heap.size = w.heap.size + 1 + 1 + 1 + 1 by rw [World.size_alloc, World.size_alloc, World.size_alloc, World.size_alloc])
  go_enter Tryd.func12, Tryd.ntmps12
  go_wp2_with (first
    | ((with_reducible show wpList _ _ _ (⟨some 28, _, _, _, _, _⟩ :: _) _ _); refine wpList_load_mid rfl 30 _ rfl (w.heap.size + 1) 0 rfl ds _ HW.out.two.range Tryd.underlying30 rfl hl2.out ?_)
    | ((with_reducible show wpList _ _ _ (⟨some 29, _, _, _, _, _⟩ :: _) _ _); refine wpList_load_mid rfl 30 _ rfl (w.heap.size + 1 + 1) 0 rfl es _ HW.out.three.range Tryd.underlying30 rfl hl3.out ?_))
  go_simp
  go_loopw [32] (fun t wr => ∃ j : Nat, j ≤ 2 ∧ t = .int .i64 j ∧ Hid (Four w wr cs ds es) ∧ Hid (PickAt wr (w.heap.size + 1 + 1 + 1 + 1) ds es) ∧ w.heap.size + 1 + 1 + 1 + 1 < wr.heap.size ∧ Hid ((0 < j → bndE a = 0) ∧ (1 < j → bndE b = 0))) (fun t _ => 2 - (intOf t).toNat)
  case atStart => exact ⟨0, by omega, rfl, Lib.hid (HW.out.later (belowBox _ _)), by rw [← HS4.out]; exact HP, by rw [World.size_alloc]; exact Nat.lt_succ_of_le (Nat.le_of_eq HS4.out.symm), Lib.hid ⟨fun h => absurd h (by omega), fun h => absurd h (by omega)⟩⟩
  case round =>
    clear HW HP HS4 hfz hfs
    obtain ⟨w1, rfl⟩ : ∃ w1, w1 = wr := ⟨wr, rfl⟩
    obtain ⟨j, hj, rfl, HW, HP, hs1, HQ⟩ := hrel
    have c0 := HW.out.one.get0 z0
    by_cases hj2 : j < 2
    · obtain ⟨x, xs, hcells, hx0, hx2, hx3, hx4, hxd, hxl, hxo, hbad, hgood⟩ : ∃ (x : ValD) (xs : List Value), CellsAt w1 (w.heap.size + 1 + 1 + 1 + 1) (j * 13) xs ∧ xs[0]? = some (.int .i64 x.kind) ∧ xs[2]? = some (.bool x.num.neg) ∧ xs[3]? = some (.string x.num.digits) ∧ xs[4]? = some (.int .i64 x.num.exp) ∧
          VDec x.num ∧ xs.length = 13 ∧ xs.toArray.all (·.oneCell') = true ∧ (bndE x ≠ 0 → slcD v a b = (zeroD, bndE x)) ∧ (bndE x = 0 → (0 < j + 1 → bndE a = 0) ∧ (1 < j + 1 → bndE b = 0)) := by
        by_cases h0 : j = 0
        · subst h0
          obtain ⟨_, _, _, _, _, _, hg⟩ := HA.out.has
          exact ⟨a, ds, HP.out.1, hg.kind, hg.neg, hg.digits, hg.exp, HDA.out, hlen2, row_ones HA.out, HE1.out, fun h => ⟨fun _ => h, fun h2 => absurd h2 (by omega)⟩⟩
        · obtain rfl : j = 1 := by omega
          obtain ⟨_, _, _, _, _, _, hg⟩ := HB.out.has
          exact ⟨b, es, HP.out.2, hg.kind, hg.neg, hg.digits, hg.exp, HDB.out, hlen3, row_ones HB.out, HE2.out (HQ.out.1 (by omega)), fun h => ⟨fun _ => HQ.out.1 (by omega), fun _ => h⟩⟩
      have HC := Lib.hid hcells
      have HXD := Lib.hid hxd
      have HXO := Lib.hid hxo
      have HXL := Lib.hid hxl
      have hxi := Lib.hid (show (Tryd.prog.info? 30).map (·.size) = some xs.length by rw [hxl]; exact sizeV)
      have HBAD := Lib.hid hbad
      have HGOOD := Lib.hid hgood
      clear hcells hxd hxo hbad hgood hxl
      by_cases hk0 : x.kind = 0
      · have HN := Lib.hid (HGOOD.out (by unfold bndE; rw [if_pos hk0]))
        rw [hk0] at hx0
        clear hk0
        go_wp2_with (first
          | ((with_reducible show wpList _ _ _ (⟨some 35, _, _, _, _, _⟩ :: _) _ _); refine wpList_load_mid rfl 30 _ rfl (w.heap.size + 1 + 1 + 1 + 1) (j * 13) rfl xs _ HC.out.range Tryd.underlying30 rfl hxi.out ?_)
          | ((with_reducible show wpList _ _ _ (⟨none, .store 30 (.tmp 9) _, _, _, _, _⟩ :: _) _ _); refine wpList_store_new rfl 30 _ _ rfl zeroV xs.toArray rfl rfl (row_size HXL.out) (row_zero HXL.out) HXO.out ?_))
        go_roundw
        case rel => exact ⟨j + 1, by omega, by go_num, Lib.hid (HW.out.later (belowBox _ _)), Lib.hid (HP.out.below (belowBox _ _) hs1), by rw [World.size_alloc]; omega, HN⟩
        case measure => simp [intOf] <;> omega
      by_cases hk2 : x.kind = 2
      · rw [hk2] at hx0
        by_cases hxe : x.num.exp < 0
        · have HR := Lib.hid (show slcD v a b = (zeroD, 15) by
            have e : bndE x = 15 := by unfold bndE; rw [if_neg hk0, if_pos hk2, if_pos hxe]
            rw [HBAD.out (by rw [e]; decide), e])
          have hx9 := Lib.hid (show decide (0 ≤ x.num.exp) = false by simpa using hxe)
          clear hk0 hk2 hxe
          go_wp2_with (first
            | ((with_reducible show wpList _ _ _ (⟨some 35, _, _, _, _, _⟩ :: _) _ _); refine wpList_load_mid rfl 30 _ rfl (w.heap.size + 1 + 1 + 1 + 1) (j * 13) rfl xs _ HC.out.range Tryd.underlying30 rfl hxi.out ?_)
            | ((with_reducible show wpList _ _ _ (⟨none, .store 30 (.tmp 9) _, _, _, _, _⟩ :: _) _ _); refine wpList_store_new rfl 30 _ _ rfl zeroV xs.toArray rfl rfl (row_size HXL.out) (row_zero HXL.out) HXO.out ?_))
          refine (whole_prog x.num false _ hx9.out).mono ?_
          rintro e w2 ⟨rfl, hb2⟩
          have HW2 := Lib.hid ((HW.out.later (belowBox _ _)).later hb2)
          clear hb2
          go_wp2_with ((with_reducible show wpList _ _ _ (⟨none, .store 30 (.tmp 6) _, _, _, _, _⟩ :: _) _ _); refine wpList_store_row rfl 30 _ _ rfl (w.heap.size + 1 + 1 + 1) zeroV rfl rfl 30 zeroV HW2.out.out sizeZ rfl oneZ ?_)
          refine bodyPost_ret (results_cell_row2 rfl _ _ (w.heap.size + 1 + 1 + 1) 30 _ (0, 0) _ rfl (setRow_heap _ _ _ _ _ _ HW2.out.out) Tryd.underlying30 rfl sizeZ) rfl ?_
          exact idx_zero HR.out (by omega) HW2.out.below
        · have HN := Lib.hid (HGOOD.out (by unfold bndE; rw [if_neg hk0, if_pos hk2, if_neg hxe]))
          have hx9 := Lib.hid (show decide (0 ≤ x.num.exp) = true by simp; omega)
          clear hk0 hk2 hxe
          go_wp2_with (first
            | ((with_reducible show wpList _ _ _ (⟨some 35, _, _, _, _, _⟩ :: _) _ _); refine wpList_load_mid rfl 30 _ rfl (w.heap.size + 1 + 1 + 1 + 1) (j * 13) rfl xs _ HC.out.range Tryd.underlying30 rfl hxi.out ?_)
            | ((with_reducible show wpList _ _ _ (⟨none, .store 30 (.tmp 9) _, _, _, _, _⟩ :: _) _ _); refine wpList_store_new rfl 30 _ _ rfl zeroV xs.toArray rfl rfl (row_size HXL.out) (row_zero HXL.out) HXO.out ?_))
          refine (whole_prog x.num true _ hx9.out).mono ?_
          rintro e w2 ⟨rfl, hb2⟩
          have hb3 := belowThen (belowBox w1 (.cells xs.toArray 30)) hb2
          have HW2 := Lib.hid (HW.out.later hb3)
          have HP2 := Lib.hid (HP.out.below hb3 hs1)
          have hs2 : w.heap.size + 1 + 1 + 1 + 1 < w2.heap.size := Nat.lt_of_lt_of_le hs1 hb3.size
          clear hb2 hb3
          go_wp2
          go_roundw
          case rel => exact ⟨j + 1, by omega, by go_num, HW2, HP2, hs2, HN⟩
          case measure => simp [intOf] <;> omega
      · have HR := Lib.hid (show slcD v a b = (zeroD, 6) by
          have e : bndE x = 6 := by unfold bndE; rw [if_neg hk0, if_neg hk2]
          rw [HBAD.out (by rw [e]; decide), e])
        obtain ⟨k, hkk⟩ : ∃ k, x.kind = k := ⟨_, rfl⟩
        rw [hkk] at hx0 hk0 hk2
        have g1 : (k == 0) = false := by simpa using hk0
        have g2 : (k == 2) = false := by simpa using hk2
        have g3 : (k != 2) = true := by simpa using hk2
        have g4 : (k != 0) = true := by simpa using hk0
        clear hk0 hk2 hkk
        go_wp2_with (first
          | ((with_reducible show wpList _ _ _ (⟨some 35, _, _, _, _, _⟩ :: _) _ _); refine wpList_load_mid rfl 30 _ rfl (w.heap.size + 1 + 1 + 1 + 1) (j * 13) rfl xs _ HC.out.range Tryd.underlying30 rfl hxi.out ?_)
          | ((with_reducible show wpList _ _ _ (⟨none, .store 30 (.tmp 9) _, _, _, _, _⟩ :: _) _ _); refine wpList_store_new rfl 30 _ _ rfl zeroV xs.toArray rfl rfl (row_size HXL.out) (row_zero HXL.out) HXO.out ?_)
          | ((with_reducible show wpList _ _ _ (⟨none, .store 30 (.tmp 6) _, _, _, _, _⟩ :: _) _ _); refine wpList_store_row rfl 30 _ _ rfl (w.heap.size + 1 + 1 + 1) zeroV rfl rfl 30 zeroV (HW.out.later (belowBox _ _)).out sizeZ rfl oneZ ?_))
        refine bodyPost_ret (results_cell_row2 rfl _ _ (w.heap.size + 1 + 1 + 1) 30 _ (0, 0) _ rfl (setRow_heap _ _ _ _ _ _ (HW.out.later (belowBox _ _)).out) Tryd.underlying30 rfl sizeZ) rfl ?_
        exact idx_zero HR.out (by omega) (HW.out.later (belowBox _ _)).below
    · obtain rfl : j = 2 := by omega
      have HEA := Lib.hid (HQ.out.1 (by omega))
      have HEB := Lib.hid (HQ.out.2 (by omega))
      have HR := Lib.hid (show slcD v a b = (zeroD, 0) by
        unfold slcD
        rw [if_neg (by have := HK.out; omega), if_neg (by have := HEA.out; omega), if_neg (by have := HEB.out; omega), if_pos HK.out])
      go_wp2_with ((with_reducible show wpList _ _ _ (⟨none, .store 30 (.tmp 6) _, _, _, _, _⟩ :: _) _ _); refine wpList_store_row rfl 30 _ _ rfl (w.heap.size + 1 + 1 + 1) zeroV rfl rfl 30 zeroV HW.out.out sizeZ rfl oneZ ?_)
      refine bodyPost_ret (results_cell_row2 rfl _ _ (w.heap.size + 1 + 1 + 1) 30 _ (0, 0) _ rfl (setRow_heap _ _ _ _ _ _ HW.out.out) Tryd.underlying30 rfl sizeZ) rfl ?_
      exact idx_zero HR.out (by omega) HW.out.below
set_option maxRecDepth 100000 in
set_option maxHeartbeats 6400000 in
theorem slice_prog4 (v a b : ValD) (w : World) (N : Nat) (cs ds es : List Value) (hT : Lib.Utf8Tabs 0 1 w) (hf : fitsV 60 v) (hda : VDec a.num) (hdb : VDec b.num) (hvs : validS v.text = true) (hts : v.text.size ≤ 65536)
    (hl0 : v.kind ≠ 6 → v.list = []) (ht0 : v.kind ≠ 4 → v.text.size = 0) (hcap : ∀ x n c, cs[11]? = some (.slice x n c) → n ≤ c) (hv : ValD.At w w.heap.size N v cs) (ha : ValD.At w w.heap.size N a ds) (hb : ValD.At w w.heap.size N b es) (hk : v.kind = 4) :
    Calls Tryd.prog 12 #[.agg cs.toArray, .agg ds.toArray, .agg es.toArray] w (IdxR N (slcD v a b) w) := by
  obtain ⟨ya, la, va, yc, lc, vc, hh⟩ := hv.has
  have hll : v.list.length ≤ N := hh.own.2.2.2.2.2.2.2.2.2.1
  have HLC := Lib.hid (hcap _ _ _ hh.list)
  have HH := Lib.hid hh
  have HV := Lib.hid hv
  have HA := Lib.hid ha
  have HB := Lib.hid hb
  have HF := Lib.hid hf
  have HDA := Lib.hid hda
  have HDB := Lib.hid hdb
  have HL0 := Lib.hid hl0
  have HT0 := Lib.hid ht0
  have HT := Lib.hid hT
  have HVS := Lib.hid hvs
  have hl := Lib.hid (show (Tryd.prog.info? 30).map (·.size) = some cs.length by rw [hv.len]; exact sizeV)
  have hl2 := Lib.hid (show (Tryd.prog.info? 30).map (·.size) = some ds.length by rw [ha.len]; exact sizeV)
  have hl3 := Lib.hid (show (Tryd.prog.info? 30).map (·.size) = some es.length by rw [hb.len]; exact sizeV)
  have hlen2 := ha.len
  have hlen3 := hb.len
  clear hv ha hb hf hda hdb hl0 ht0 hcap hT hvs hh
  have HW := Lib.hid (four_boxes w cs ds es)
  have z0 := HH.out.kind
  have hA : ¬ (v.kind ≠ 0 ∧ v.kind ≠ 4 ∧ v.kind ≠ 6) := by omega
  have HE1 := Lib.hid (show bndE a ≠ 0 → slcD v a b = (zeroD, bndE a) from fun h => by unfold slcD; rw [if_neg hA, if_pos h])
  have HE2 := Lib.hid (show bndE a = 0 → bndE b ≠ 0 → slcD v a b = (zeroD, bndE b) from fun h1 h2 => by unfold slcD; rw [if_neg hA, if_neg (by omega), if_pos h2])
  have HK := Lib.hid hk
  rw [hk] at z0
  clear hA hk
  have hfz := fold_two ds es #[.int .i64 0, .bool false, .bool false, .string ⟨#[]⟩, .int .i64 0, .int .i64 0, .int .i64 0, .int .i64 0, .int .i64 0, .string ⟨#[]⟩, .slice none 0 0, .slice none 0 0, .slice none 0 0, .int .i64 0, .bool false, .bool false, .string ⟨#[]⟩, .int .i64 0, .int .i64 0, .int .i64 0, .int .i64 0, .int .i64 0, .string ⟨#[]⟩, .slice none 0 0, .slice none 0 0, .slice none 0 0] hlen2 hlen3 rfl
  have hfs := fold_size ds #[.int .i64 0, .bool false, .bool false, .string ⟨#[]⟩, .int .i64 0, .int .i64 0, .int .i64 0, .int .i64 0, .int .i64 0, .string ⟨#[]⟩, .slice none 0 0, .slice none 0 0, .slice none 0 0, .int .i64 0, .bool false, .bool false, .string ⟨#[]⟩, .int .i64 0, .int .i64 0, .int .i64 0, .int .i64 0, .int .i64 0, .string ⟨#[]⟩, .slice none 0 0, .slice none 0 0, .slice none 0 0] hlen2 rfl
  have HP := Lib.hid (pick_new ((((w.alloc (.cells cs.toArray 30)).alloc (.cells ds.toArray 30)).alloc (.cells es.toArray 30)).alloc (.cells zeroV 30)) ds es hlen2)
  have HS4 := Lib.hid (show ((((w.alloc (.cells cs.toArray 30)).alloc (.cells ds.toArray 30)).alloc (.cells es.toArray 30)).alloc (.cells zeroV 30)).heap.size = w.heap.size + 1 + 1 + 1 + 1 by rw [World.size_alloc, World.size_alloc, World.size_alloc, World.size_alloc])
  go_enter Tryd.func12, Tryd.ntmps12
  go_wp2_with (first
    | ((with_reducible show wpList _ _ _ (⟨some 28, _, _, _, _, _⟩ :: _) _ _); refine wpList_load_mid rfl 30 _ rfl (w.heap.size + 1) 0 rfl ds _ HW.out.two.range Tryd.underlying30 rfl hl2.out ?_)
    | ((with_reducible show wpList _ _ _ (⟨some 29, _, _, _, _, _⟩ :: _) _ _); refine wpList_load_mid rfl 30 _ rfl (w.heap.size + 1 + 1) 0 rfl es _ HW.out.three.range Tryd.underlying30 rfl hl3.out ?_))
  go_simp
  go_loopw [32] (fun t wr => ∃ j : Nat, j ≤ 2 ∧ t = .int .i64 j ∧ Hid (Four w wr cs ds es) ∧ Hid (PickAt wr (w.heap.size + 1 + 1 + 1 + 1) ds es) ∧ w.heap.size + 1 + 1 + 1 + 1 < wr.heap.size ∧ Hid ((0 < j → bndE a = 0) ∧ (1 < j → bndE b = 0))) (fun t _ => 2 - (intOf t).toNat)
  case atStart => exact ⟨0, by omega, rfl, Lib.hid (HW.out.later (belowBox _ _)), by rw [← HS4.out]; exact HP, by rw [World.size_alloc]; exact Nat.lt_succ_of_le (Nat.le_of_eq HS4.out.symm), Lib.hid ⟨fun h => absurd h (by omega), fun h => absurd h (by omega)⟩⟩
  case round =>
    clear HW HP HS4 hfz hfs
    obtain ⟨w1, rfl⟩ : ∃ w1, w1 = wr := ⟨wr, rfl⟩
    obtain ⟨j, hj, rfl, HW, HP, hs1, HQ⟩ := hrel
    have c0 := HW.out.one.get0 z0
    by_cases hj2 : j < 2
    · obtain ⟨x, xs, hcells, hx0, hx2, hx3, hx4, hxd, hxl, hxo, hbad, hgood⟩ : ∃ (x : ValD) (xs : List Value), CellsAt w1 (w.heap.size + 1 + 1 + 1 + 1) (j * 13) xs ∧ xs[0]? = some (.int .i64 x.kind) ∧ xs[2]? = some (.bool x.num.neg) ∧ xs[3]? = some (.string x.num.digits) ∧ xs[4]? = some (.int .i64 x.num.exp) ∧
          VDec x.num ∧ xs.length = 13 ∧ xs.toArray.all (·.oneCell') = true ∧ (bndE x ≠ 0 → slcD v a b = (zeroD, bndE x)) ∧ (bndE x = 0 → (0 < j + 1 → bndE a = 0) ∧ (1 < j + 1 → bndE b = 0)) := by
        by_cases h0 : j = 0
        · subst h0
          obtain ⟨_, _, _, _, _, _, hg⟩ := HA.out.has
          exact ⟨a, ds, HP.out.1, hg.kind, hg.neg, hg.digits, hg.exp, HDA.out, hlen2, row_ones HA.out, HE1.out, fun h => ⟨fun _ => h, fun h2 => absurd h2 (by omega)⟩⟩
        · obtain rfl : j = 1 := by omega
          obtain ⟨_, _, _, _, _, _, hg⟩ := HB.out.has
          exact ⟨b, es, HP.out.2, hg.kind, hg.neg, hg.digits, hg.exp, HDB.out, hlen3, row_ones HB.out, HE2.out (HQ.out.1 (by omega)), fun h => ⟨fun _ => HQ.out.1 (by omega), fun _ => h⟩⟩
      have HC := Lib.hid hcells
      have HXD := Lib.hid hxd
      have HXO := Lib.hid hxo
      have HXL := Lib.hid hxl
      have hxi := Lib.hid (show (Tryd.prog.info? 30).map (·.size) = some xs.length by rw [hxl]; exact sizeV)
      have HBAD := Lib.hid hbad
      have HGOOD := Lib.hid hgood
      clear hcells hxd hxo hbad hgood hxl
      by_cases hk0 : x.kind = 0
      · have HN := Lib.hid (HGOOD.out (by unfold bndE; rw [if_pos hk0]))
        rw [hk0] at hx0
        clear hk0
        go_wp2_with (first
          | ((with_reducible show wpList _ _ _ (⟨some 35, _, _, _, _, _⟩ :: _) _ _); refine wpList_load_mid rfl 30 _ rfl (w.heap.size + 1 + 1 + 1 + 1) (j * 13) rfl xs _ HC.out.range Tryd.underlying30 rfl hxi.out ?_)
          | ((with_reducible show wpList _ _ _ (⟨none, .store 30 (.tmp 9) _, _, _, _, _⟩ :: _) _ _); refine wpList_store_new rfl 30 _ _ rfl zeroV xs.toArray rfl rfl (row_size HXL.out) (row_zero HXL.out) HXO.out ?_))
        go_roundw
        case rel => exact ⟨j + 1, by omega, by go_num, Lib.hid (HW.out.later (belowBox _ _)), Lib.hid (HP.out.below (belowBox _ _) hs1), by rw [World.size_alloc]; omega, HN⟩
        case measure => simp [intOf] <;> omega
      by_cases hk2 : x.kind = 2
      · rw [hk2] at hx0
        by_cases hxe : x.num.exp < 0
        · have HR := Lib.hid (show slcD v a b = (zeroD, 15) by
            have e : bndE x = 15 := by unfold bndE; rw [if_neg hk0, if_pos hk2, if_pos hxe]
            rw [HBAD.out (by rw [e]; decide), e])
          have hx9 := Lib.hid (show decide (0 ≤ x.num.exp) = false by simpa using hxe)
          clear hk0 hk2 hxe
          go_wp2_with (first
            | ((with_reducible show wpList _ _ _ (⟨some 35, _, _, _, _, _⟩ :: _) _ _); refine wpList_load_mid rfl 30 _ rfl (w.heap.size + 1 + 1 + 1 + 1) (j * 13) rfl xs _ HC.out.range Tryd.underlying30 rfl hxi.out ?_)
            | ((with_reducible show wpList _ _ _ (⟨none, .store 30 (.tmp 9) _, _, _, _, _⟩ :: _) _ _); refine wpList_store_new rfl 30 _ _ rfl zeroV xs.toArray rfl rfl (row_size HXL.out) (row_zero HXL.out) HXO.out ?_))
          refine (whole_prog x.num false _ hx9.out).mono ?_
          rintro e w2 ⟨rfl, hb2⟩
          have HW2 := Lib.hid ((HW.out.later (belowBox _ _)).later hb2)
          clear hb2
          go_wp2_with ((with_reducible show wpList _ _ _ (⟨none, .store 30 (.tmp 6) _, _, _, _, _⟩ :: _) _ _); refine wpList_store_row rfl 30 _ _ rfl (w.heap.size + 1 + 1 + 1) zeroV rfl rfl 30 zeroV HW2.out.out sizeZ rfl oneZ ?_)
          refine bodyPost_ret (results_cell_row2 rfl _ _ (w.heap.size + 1 + 1 + 1) 30 _ (0, 0) _ rfl (setRow_heap _ _ _ _ _ _ HW2.out.out) Tryd.underlying30 rfl sizeZ) rfl ?_
          exact idx_zero HR.out (by omega) HW2.out.below
        · have HN := Lib.hid (HGOOD.out (by unfold bndE; rw [if_neg hk0, if_pos hk2, if_neg hxe]))
          have hx9 := Lib.hid (show decide (0 ≤ x.num.exp) = true by simp; omega)
          clear hk0 hk2 hxe
          go_wp2_with (first
            | ((with_reducible show wpList _ _ _ (⟨some 35, _, _, _, _, _⟩ :: _) _ _); refine wpList_load_mid rfl 30 _ rfl (w.heap.size + 1 + 1 + 1 + 1) (j * 13) rfl xs _ HC.out.range Tryd.underlying30 rfl hxi.out ?_)
            | ((with_reducible show wpList _ _ _ (⟨none, .store 30 (.tmp 9) _, _, _, _, _⟩ :: _) _ _); refine wpList_store_new rfl 30 _ _ rfl zeroV xs.toArray rfl rfl (row_size HXL.out) (row_zero HXL.out) HXO.out ?_))
          refine (whole_prog x.num true _ hx9.out).mono ?_
          rintro e w2 ⟨rfl, hb2⟩
          have hb3 := belowThen (belowBox w1 (.cells xs.toArray 30)) hb2
          have HW2 := Lib.hid (HW.out.later hb3)
          have HP2 := Lib.hid (HP.out.below hb3 hs1)
          have hs2 : w.heap.size + 1 + 1 + 1 + 1 < w2.heap.size := Nat.lt_of_lt_of_le hs1 hb3.size
          clear hb2 hb3
          go_wp2
          go_roundw
          case rel => exact ⟨j + 1, by omega, by go_num, HW2, HP2, hs2, HN⟩
          case measure => simp [intOf] <;> omega
      · have HR := Lib.hid (show slcD v a b = (zeroD, 6) by
          have e : bndE x = 6 := by unfold bndE; rw [if_neg hk0, if_neg hk2]
          rw [HBAD.out (by rw [e]; decide), e])
        obtain ⟨k, hkk⟩ : ∃ k, x.kind = k := ⟨_, rfl⟩
        rw [hkk] at hx0 hk0 hk2
        have g1 : (k == 0) = false := by simpa using hk0
        have g2 : (k == 2) = false := by simpa using hk2
        have g3 : (k != 2) = true := by simpa using hk2
        have g4 : (k != 0) = true := by simpa using hk0
        clear hk0 hk2 hkk
        go_wp2_with (first
          | ((with_reducible show wpList _ _ _ (⟨some 35, _, _, _, _, _⟩ :: _) _ _); refine wpList_load_mid rfl 30 _ rfl (w.heap.size + 1 + 1 + 1 + 1) (j * 13) rfl xs _ HC.out.range Tryd.underlying30 rfl hxi.out ?_)
          | ((with_reducible show wpList _ _ _ (⟨none, .store 30 (.tmp 9) _, _, _, _, _⟩ :: _) _ _); refine wpList_store_new rfl 30 _ _ rfl zeroV xs.toArray rfl rfl (row_size HXL.out) (row_zero HXL.out) HXO.out ?_)
          | ((with_reducible show wpList _ _ _ (⟨none, .store 30 (.tmp 6) _, _, _, _, _⟩ :: _) _ _); refine wpList_store_row rfl 30 _ _ rfl (w.heap.size + 1 + 1 + 1) zeroV rfl rfl 30 zeroV (HW.out.later (belowBox _ _)).out sizeZ rfl oneZ ?_))
        refine bodyPost_ret (results_cell_row2 rfl _ _ (w.heap.size + 1 + 1 + 1) 30 _ (0, 0) _ rfl (setRow_heap _ _ _ _ _ _ (HW.out.later (belowBox _ _)).out) Tryd.underlying30 rfl sizeZ) rfl ?_
        exact idx_zero HR.out (by omega) (HW.out.later (belowBox _ _)).below
    · obtain rfl : j = 2 := by omega
      have HEA := Lib.hid (HQ.out.1 (by omega))
      have HEB := Lib.hid (HQ.out.2 (by omega))
      have HLL := Lib.hid (show v.list = [] from HL0.out (by have := HK.out; omega))
      have c9 := HW.out.one.get0 HH.out.text
      have q11 : cs[11]? = some (.slice la 0 lc) := by
        have h := HH.out.list
        rw [HLL.out] at h
        exact h
      go_wp2_with fail
      refine (chars_prog v.text w1 (by omega) (tabs_below HT.out HW.out.below) HVS.out).mono ?_
      rintro e w2 ⟨a1, c1, rfl, hc1, hc2, hst, hb2⟩
      have HW2 := Lib.hid (HW.out.later hb2)
      have hs2 : w.heap.size + 1 + 1 + 1 + 1 < w2.heap.size := Nat.lt_of_lt_of_le hs1 hb2.size
      have HST := Lib.hid hst
      obtain ⟨l, hl⟩ : ∃ l, charsD v.text = l := ⟨_, rfl⟩
      have HL := Lib.hid hl
      have hcn : l.length ≤ 65536 := by have := chars_count HVS.out; rw [hl] at this; omega
      rw [hl] at HST hc1 ⊢
      have d11 := HW2.out.one.get0 q11
      clear hl hb2 hst c9 c0
      have HC1 := Lib.hid hc1
      have HC2 := Lib.hid hc2
      clear hc1 hc2
      go_wp2_with fail
      have hil := bndD_le a (show (0 : Nat) ≤ l.length by omega)
      have hkl := bndD_le b (Nat.le_refl l.length)
      obtain ⟨i, hi⟩ : ∃ i, bndD a l.length 0 = i := ⟨_, rfl⟩
      obtain ⟨k, hk⟩ : ∃ k, bndD b l.length l.length = k := ⟨_, rfl⟩
      rw [hi] at hil
      rw [hk] at hkl
      have HI := Lib.hid hi
      have HKK := Lib.hid hk
      obtain ⟨m, hm⟩ : ∃ m, m = max i k := ⟨_, rfl⟩
      have hmx : max (i : Int) (k : Int) = (m : Nat) := by omega
      have him : (i : Int) ≤ (m : Int) := by omega
      have hml : m ≤ l.length := by omega
      have hmc : (m : Int) ≤ (c1 : Int) := by have := HC1.out; omega
      have HM := Lib.hid hm
      clear hm
      obtain ⟨hjv, hjs⟩ := join_valid HVS.out (i := i) (n := m - i) (by rw [HL.out]; omega)
      rw [HL.out] at hjs
      have HJS := Lib.hid hjs
      have hN4 := HH.out.own.2.2.2.2.2.2.2.1
      clear hjv hjs
      clear hi hk d11
      have D3 : Below w2.heap.size w2 w2.drew := ⟨rfl, rfl, rfl, Nat.le_refl _, fun _ _ => rfl⟩
      refine wp_region_held_drew (S := fun u => Below w2.heap.size w2 u) (by kernel_rfl) D3 (fun hHeld => ?_)
      refine' wpAnyH_take (i := 0) (v := _) rfl (by kernel_rfl) (by kernel_rfl) (by kernel_rfl) (fun _ _ _ h => h) (yieldsIf_load_mid (by rfl) 30 _ rfl (w.heap.size + 1) 0 rfl ds _ (fun u hu => (HW2.out.later hu).two.range) Tryd.underlying30 rfl hl2.out) (by assumption) ?_
      simp only [Act.put, List.setIfInBounds_toArray]
      refine' wpAnyH_take (i := 1) (v := _) rfl (by kernel_rfl) (by kernel_rfl) (by kernel_rfl) (fun _ _ _ h => h) (yieldsIf_move (by rfl) (.tmp 11) rfl (.int .i64 (l.length : Nat)) rfl) (by assumption) ?_
      simp only [Act.put]
      refine' wpAnyH_take (i := 3) (v := _) rfl (by kernel_rfl) (by kernel_rfl) (by kernel_rfl) (fun _ _ _ h => h) (yieldsIf_load_mid (by rfl) 30 _ rfl (w.heap.size + 1 + 1) 0 rfl es _ (fun u hu => (HW2.out.later hu).three.range) Tryd.underlying30 rfl hl3.out) (by assumption) ?_
      simp only [Act.put]
      refine' wpAnyH_take (i := 4) (v := _) rfl (by kernel_rfl) (by kernel_rfl) (by kernel_rfl) (fun _ _ _ h => h) (yieldsIf_move (by rfl) (.tmp 11) rfl (.int .i64 (l.length : Nat)) rfl) (by assumption) ?_
      simp only [Act.put]
      refine' wpAnyH_take (i := 5) (v := _) rfl (by kernel_rfl) (by kernel_rfl) (by kernel_rfl) (fun _ _ _ h => h) (yieldsIf_move (by rfl) (.tmp 11) rfl (.int .i64 (l.length : Nat)) rfl) (by assumption) ?_
      simp only [Act.put]
      refine wpAnyH_ready (rs := [2]) (by kernel_rfl) (by simp) ?_
      refine AllReadyH.cons rfl (fun K hK => ?_) AllReadyH.nil
      go_simp
      refine (bound_n a l.length 0 i HI.out _ w.heap.size N ds (by omega) HDA.out (HA.out.below (HW2.out.later hHeld).below)).mono ?_
      rintro e u1 ⟨rfl, hb1⟩
      refine hK.out _ _ (hHeld.trans (hb1.mono hHeld.size)) (fun hHeld1 => ?_)
      clear hK K hHeld hb1
      refine wpAnyH_ready (rs := [6]) (by kernel_rfl) (by simp) ?_
      refine AllReadyH.cons rfl (fun K hK => ?_) AllReadyH.nil
      go_simp
      refine (bound_n b l.length l.length k HKK.out _ w.heap.size N es (by omega) HDB.out (HB.out.below (HW2.out.later hHeld1).below)).mono ?_
      rintro e u2 ⟨rfl, hb2⟩
      refine hK.out _ _ (hHeld1.trans (hb2.mono hHeld1.size)) (fun hHeld2 => ?_)
      clear hK K hHeld1 hb2
      refine wpAnyH_ready (rs := [7]) (by kernel_rfl) (by simp) ?_
      refine AllReadyH.cons rfl (fun K hK => ?_) AllReadyH.nil
      go_simp
      refine hK.out _ _ hHeld2 (fun hHeld3 => ?_)
      clear hK K hHeld3
      refine wpAnyH_ready (rs := [8]) (by kernel_rfl) (by simp) ?_
      refine AllReadyH.cons rfl (fun K hK => ?_) AllReadyH.nil
      go_simp
      refine hK.out _ _ hHeld2 (fun hHeld3 => ?_)
      clear hK K hHeld3
      refine wpAnyH_done (by kernel_rfl) ?_ _
      have HW3 := Lib.hid (HW2.out.later hHeld2)
      have HST3 := Lib.hid (HST.out.below hHeld2)
      have c0 := HW3.out.one.get0 z0
      clear hHeld2 u1 D3
      go_wp2_with fail
      all_goals
        refine (join_prog ((l.drop i).take (m - i)) _ _ (m - i) _ (by rw [List.length_take, List.length_drop]; omega) (by omega) (by omega) (by have := HJS.out; omega) (by first | exact strs_slice i (m - i) HST3.out | exact .inl (by rw [List.drop_of_length_le (by have := HC1.out; omega), List.take_nil]))).mono ?_
        rintro e w4 ⟨rfl, hb4⟩
        have HW4 := Lib.hid (HW3.out.later hb4)
        clear hb4
        obtain ⟨s, hs⟩ : ∃ s, joinD ((l.drop i).take (m - i)) = s := ⟨_, rfl⟩
        rw [hs] at HJS ⊢
        have HR := Lib.hid (show slcD v a b = (textD s, 0) by
          unfold slcD
          rw [if_neg (by have := HK.out; omega), if_neg (by have := HEA.out; omega), if_neg (by have := HEB.out; omega), if_neg (by have := HK.out; omega), if_pos HK.out, HL.out, HI.out, HKK.out, ← hs, show k - i = m - i by have := HM.out; omega])
        clear hs
        go_wp2_with fail
        refine (text_prog s w4).mono ?_
        rintro e w5 ⟨rfl, hb5⟩
        have HW5 := Lib.hid (HW4.out.later hb5)
        clear hb5
        go_wp2_with ((with_reducible show wpList _ _ _ (⟨none, .store 30 (.tmp 6) _, _, _, _, _⟩ :: _) _ _); refine wpList_store_row rfl 30 _ _ rfl (w.heap.size + 1 + 1 + 1) (textR s).toArray rfl rfl 30 zeroV HW5.out.out (row_size rfl) (row_zero rfl) (row_ones (textD_at (w := w) (B := 0) (Nat.le_trans HJS.out hN4))) ?_)
        refine bodyPost_ret (results_cell_row2 rfl _ _ (w.heap.size + 1 + 1 + 1) 30 _ (0, 0) _ rfl (setRow_heap _ _ _ _ _ _ HW5.out.out) Tryd.underlying30 rfl (row_size rfl)) rfl ?_
        rw [HR.out]
        exact ⟨textR s, rfl, textD_at (Nat.le_trans HJS.out hN4), below_setRow HW5.out.below (by omega) _⟩
set_option maxRecDepth 100000 in
set_option maxHeartbeats 6400000 in
theorem slice_prog6 (v a b : ValD) (w : World) (N : Nat) (cs ds es : List Value) (hN : N ≤ 4294967296) (hT : Lib.Utf8Tabs 0 1 w) (hf : fitsV 60 v) (hda : VDec a.num) (hdb : VDec b.num) (hvs : validS v.text = true) (hts : v.text.size ≤ 65536)
    (hl0 : v.kind ≠ 6 → v.list = []) (ht0 : v.kind ≠ 4 → v.text.size = 0) (hcap : ∀ x n c, cs[11]? = some (.slice x n c) → n ≤ c) (hv : ValD.At w w.heap.size N v cs) (ha : ValD.At w w.heap.size N a ds) (hb : ValD.At w w.heap.size N b es) (hk : v.kind = 6) :
    Calls Tryd.prog 12 #[.agg cs.toArray, .agg ds.toArray, .agg es.toArray] w (IdxR N (slcD v a b) w) := by
  obtain ⟨ya, la, va, yc, lc, vc, hh⟩ := hv.has
  have hll : v.list.length ≤ N := hh.own.2.2.2.2.2.2.2.2.2.1
  have HLC := Lib.hid (hcap _ _ _ hh.list)
  have HH := Lib.hid hh
  have HV := Lib.hid hv
  have HA := Lib.hid ha
  have HB := Lib.hid hb
  have HF := Lib.hid hf
  have HDA := Lib.hid hda
  have HDB := Lib.hid hdb
  have HL0 := Lib.hid hl0
  have HT0 := Lib.hid ht0
  have HT := Lib.hid hT
  have HVS := Lib.hid hvs
  have hl := Lib.hid (show (Tryd.prog.info? 30).map (·.size) = some cs.length by rw [hv.len]; exact sizeV)
  have hl2 := Lib.hid (show (Tryd.prog.info? 30).map (·.size) = some ds.length by rw [ha.len]; exact sizeV)
  have hl3 := Lib.hid (show (Tryd.prog.info? 30).map (·.size) = some es.length by rw [hb.len]; exact sizeV)
  have hlen2 := ha.len
  have hlen3 := hb.len
  clear hv ha hb hf hda hdb hl0 ht0 hcap hT hvs hh
  have HW := Lib.hid (four_boxes w cs ds es)
  have z0 := HH.out.kind
  have hA : ¬ (v.kind ≠ 0 ∧ v.kind ≠ 4 ∧ v.kind ≠ 6) := by omega
  have HE1 := Lib.hid (show bndE a ≠ 0 → slcD v a b = (zeroD, bndE a) from fun h => by unfold slcD; rw [if_neg hA, if_pos h])
  have HE2 := Lib.hid (show bndE a = 0 → bndE b ≠ 0 → slcD v a b = (zeroD, bndE b) from fun h1 h2 => by unfold slcD; rw [if_neg hA, if_neg (by omega), if_pos h2])
  have HK := Lib.hid hk
  rw [hk] at z0
  clear hA hk
  have hfz := fold_two ds es #[.int .i64 0, .bool false, .bool false, .string ⟨#[]⟩, .int .i64 0, .int .i64 0, .int .i64 0, .int .i64 0, .int .i64 0, .string ⟨#[]⟩, .slice none 0 0, .slice none 0 0, .slice none 0 0, .int .i64 0, .bool false, .bool false, .string ⟨#[]⟩, .int .i64 0, .int .i64 0, .int .i64 0, .int .i64 0, .int .i64 0, .string ⟨#[]⟩, .slice none 0 0, .slice none 0 0, .slice none 0 0] hlen2 hlen3 rfl
  have hfs := fold_size ds #[.int .i64 0, .bool false, .bool false, .string ⟨#[]⟩, .int .i64 0, .int .i64 0, .int .i64 0, .int .i64 0, .int .i64 0, .string ⟨#[]⟩, .slice none 0 0, .slice none 0 0, .slice none 0 0, .int .i64 0, .bool false, .bool false, .string ⟨#[]⟩, .int .i64 0, .int .i64 0, .int .i64 0, .int .i64 0, .int .i64 0, .string ⟨#[]⟩, .slice none 0 0, .slice none 0 0, .slice none 0 0] hlen2 rfl
  have HP := Lib.hid (pick_new ((((w.alloc (.cells cs.toArray 30)).alloc (.cells ds.toArray 30)).alloc (.cells es.toArray 30)).alloc (.cells zeroV 30)) ds es hlen2)
  have HS4 := Lib.hid (show ((((w.alloc (.cells cs.toArray 30)).alloc (.cells ds.toArray 30)).alloc (.cells es.toArray 30)).alloc (.cells zeroV 30)).heap.size = w.heap.size + 1 + 1 + 1 + 1 by rw [World.size_alloc, World.size_alloc, World.size_alloc, World.size_alloc])
  go_enter Tryd.func12, Tryd.ntmps12
  go_wp2_with (first
    | ((with_reducible show wpList _ _ _ (⟨some 28, _, _, _, _, _⟩ :: _) _ _); refine wpList_load_mid rfl 30 _ rfl (w.heap.size + 1) 0 rfl ds _ HW.out.two.range Tryd.underlying30 rfl hl2.out ?_)
    | ((with_reducible show wpList _ _ _ (⟨some 29, _, _, _, _, _⟩ :: _) _ _); refine wpList_load_mid rfl 30 _ rfl (w.heap.size + 1 + 1) 0 rfl es _ HW.out.three.range Tryd.underlying30 rfl hl3.out ?_))
  go_simp
  go_loopw [32] (fun t wr => ∃ j : Nat, j ≤ 2 ∧ t = .int .i64 j ∧ Hid (Four w wr cs ds es) ∧ Hid (PickAt wr (w.heap.size + 1 + 1 + 1 + 1) ds es) ∧ w.heap.size + 1 + 1 + 1 + 1 < wr.heap.size ∧ Hid ((0 < j → bndE a = 0) ∧ (1 < j → bndE b = 0))) (fun t _ => 2 - (intOf t).toNat)
  case atStart => exact ⟨0, by omega, rfl, Lib.hid (HW.out.later (belowBox _ _)), by rw [← HS4.out]; exact HP, by rw [World.size_alloc]; exact Nat.lt_succ_of_le (Nat.le_of_eq HS4.out.symm), Lib.hid ⟨fun h => absurd h (by omega), fun h => absurd h (by omega)⟩⟩
  case round =>
    clear HW HP HS4 hfz hfs
    obtain ⟨w1, rfl⟩ : ∃ w1, w1 = wr := ⟨wr, rfl⟩
    obtain ⟨j, hj, rfl, HW, HP, hs1, HQ⟩ := hrel
    have c0 := HW.out.one.get0 z0
    by_cases hj2 : j < 2
    · obtain ⟨x, xs, hcells, hx0, hx2, hx3, hx4, hxd, hxl, hxo, hbad, hgood⟩ : ∃ (x : ValD) (xs : List Value), CellsAt w1 (w.heap.size + 1 + 1 + 1 + 1) (j * 13) xs ∧ xs[0]? = some (.int .i64 x.kind) ∧ xs[2]? = some (.bool x.num.neg) ∧ xs[3]? = some (.string x.num.digits) ∧ xs[4]? = some (.int .i64 x.num.exp) ∧
          VDec x.num ∧ xs.length = 13 ∧ xs.toArray.all (·.oneCell') = true ∧ (bndE x ≠ 0 → slcD v a b = (zeroD, bndE x)) ∧ (bndE x = 0 → (0 < j + 1 → bndE a = 0) ∧ (1 < j + 1 → bndE b = 0)) := by
        by_cases h0 : j = 0
        · subst h0
          obtain ⟨_, _, _, _, _, _, hg⟩ := HA.out.has
          exact ⟨a, ds, HP.out.1, hg.kind, hg.neg, hg.digits, hg.exp, HDA.out, hlen2, row_ones HA.out, HE1.out, fun h => ⟨fun _ => h, fun h2 => absurd h2 (by omega)⟩⟩
        · obtain rfl : j = 1 := by omega
          obtain ⟨_, _, _, _, _, _, hg⟩ := HB.out.has
          exact ⟨b, es, HP.out.2, hg.kind, hg.neg, hg.digits, hg.exp, HDB.out, hlen3, row_ones HB.out, HE2.out (HQ.out.1 (by omega)), fun h => ⟨fun _ => HQ.out.1 (by omega), fun _ => h⟩⟩
      have HC := Lib.hid hcells
      have HXD := Lib.hid hxd
      have HXO := Lib.hid hxo
      have HXL := Lib.hid hxl
      have hxi := Lib.hid (show (Tryd.prog.info? 30).map (·.size) = some xs.length by rw [hxl]; exact sizeV)
      have HBAD := Lib.hid hbad
      have HGOOD := Lib.hid hgood
      clear hcells hxd hxo hbad hgood hxl
      by_cases hk0 : x.kind = 0
      · have HN := Lib.hid (HGOOD.out (by unfold bndE; rw [if_pos hk0]))
        rw [hk0] at hx0
        clear hk0
        go_wp2_with (first
          | ((with_reducible show wpList _ _ _ (⟨some 35, _, _, _, _, _⟩ :: _) _ _); refine wpList_load_mid rfl 30 _ rfl (w.heap.size + 1 + 1 + 1 + 1) (j * 13) rfl xs _ HC.out.range Tryd.underlying30 rfl hxi.out ?_)
          | ((with_reducible show wpList _ _ _ (⟨none, .store 30 (.tmp 9) _, _, _, _, _⟩ :: _) _ _); refine wpList_store_new rfl 30 _ _ rfl zeroV xs.toArray rfl rfl (row_size HXL.out) (row_zero HXL.out) HXO.out ?_))
        go_roundw
        case rel => exact ⟨j + 1, by omega, by go_num, Lib.hid (HW.out.later (belowBox _ _)), Lib.hid (HP.out.below (belowBox _ _) hs1), by rw [World.size_alloc]; omega, HN⟩
        case measure => simp [intOf] <;> omega
      by_cases hk2 : x.kind = 2
      · rw [hk2] at hx0
        by_cases hxe : x.num.exp < 0
        · have HR := Lib.hid (show slcD v a b = (zeroD, 15) by
            have e : bndE x = 15 := by unfold bndE; rw [if_neg hk0, if_pos hk2, if_pos hxe]
            rw [HBAD.out (by rw [e]; decide), e])
          have hx9 := Lib.hid (show decide (0 ≤ x.num.exp) = false by simpa using hxe)
          clear hk0 hk2 hxe
          go_wp2_with (first
            | ((with_reducible show wpList _ _ _ (⟨some 35, _, _, _, _, _⟩ :: _) _ _); refine wpList_load_mid rfl 30 _ rfl (w.heap.size + 1 + 1 + 1 + 1) (j * 13) rfl xs _ HC.out.range Tryd.underlying30 rfl hxi.out ?_)
            | ((with_reducible show wpList _ _ _ (⟨none, .store 30 (.tmp 9) _, _, _, _, _⟩ :: _) _ _); refine wpList_store_new rfl 30 _ _ rfl zeroV xs.toArray rfl rfl (row_size HXL.out) (row_zero HXL.out) HXO.out ?_))
          refine (whole_prog x.num false _ hx9.out).mono ?_
          rintro e w2 ⟨rfl, hb2⟩
          have HW2 := Lib.hid ((HW.out.later (belowBox _ _)).later hb2)
          clear hb2
          go_wp2_with ((with_reducible show wpList _ _ _ (⟨none, .store 30 (.tmp 6) _, _, _, _, _⟩ :: _) _ _); refine wpList_store_row rfl 30 _ _ rfl (w.heap.size + 1 + 1 + 1) zeroV rfl rfl 30 zeroV HW2.out.out sizeZ rfl oneZ ?_)
          refine bodyPost_ret (results_cell_row2 rfl _ _ (w.heap.size + 1 + 1 + 1) 30 _ (0, 0) _ rfl (setRow_heap _ _ _ _ _ _ HW2.out.out) Tryd.underlying30 rfl sizeZ) rfl ?_
          exact idx_zero HR.out (by omega) HW2.out.below
        · have HN := Lib.hid (HGOOD.out (by unfold bndE; rw [if_neg hk0, if_pos hk2, if_neg hxe]))
          have hx9 := Lib.hid (show decide (0 ≤ x.num.exp) = true by simp; omega)
          clear hk0 hk2 hxe
          go_wp2_with (first
            | ((with_reducible show wpList _ _ _ (⟨some 35, _, _, _, _, _⟩ :: _) _ _); refine wpList_load_mid rfl 30 _ rfl (w.heap.size + 1 + 1 + 1 + 1) (j * 13) rfl xs _ HC.out.range Tryd.underlying30 rfl hxi.out ?_)
            | ((with_reducible show wpList _ _ _ (⟨none, .store 30 (.tmp 9) _, _, _, _, _⟩ :: _) _ _); refine wpList_store_new rfl 30 _ _ rfl zeroV xs.toArray rfl rfl (row_size HXL.out) (row_zero HXL.out) HXO.out ?_))
          refine (whole_prog x.num true _ hx9.out).mono ?_
          rintro e w2 ⟨rfl, hb2⟩
          have hb3 := belowThen (belowBox w1 (.cells xs.toArray 30)) hb2
          have HW2 := Lib.hid (HW.out.later hb3)
          have HP2 := Lib.hid (HP.out.below hb3 hs1)
          have hs2 : w.heap.size + 1 + 1 + 1 + 1 < w2.heap.size := Nat.lt_of_lt_of_le hs1 hb3.size
          clear hb2 hb3
          go_wp2
          go_roundw
          case rel => exact ⟨j + 1, by omega, by go_num, HW2, HP2, hs2, HN⟩
          case measure => simp [intOf] <;> omega
      · have HR := Lib.hid (show slcD v a b = (zeroD, 6) by
          have e : bndE x = 6 := by unfold bndE; rw [if_neg hk0, if_neg hk2]
          rw [HBAD.out (by rw [e]; decide), e])
        obtain ⟨k, hkk⟩ : ∃ k, x.kind = k := ⟨_, rfl⟩
        rw [hkk] at hx0 hk0 hk2
        have g1 : (k == 0) = false := by simpa using hk0
        have g2 : (k == 2) = false := by simpa using hk2
        have g3 : (k != 2) = true := by simpa using hk2
        have g4 : (k != 0) = true := by simpa using hk0
        clear hk0 hk2 hkk
        go_wp2_with (first
          | ((with_reducible show wpList _ _ _ (⟨some 35, _, _, _, _, _⟩ :: _) _ _); refine wpList_load_mid rfl 30 _ rfl (w.heap.size + 1 + 1 + 1 + 1) (j * 13) rfl xs _ HC.out.range Tryd.underlying30 rfl hxi.out ?_)
          | ((with_reducible show wpList _ _ _ (⟨none, .store 30 (.tmp 9) _, _, _, _, _⟩ :: _) _ _); refine wpList_store_new rfl 30 _ _ rfl zeroV xs.toArray rfl rfl (row_size HXL.out) (row_zero HXL.out) HXO.out ?_)
          | ((with_reducible show wpList _ _ _ (⟨none, .store 30 (.tmp 6) _, _, _, _, _⟩ :: _) _ _); refine wpList_store_row rfl 30 _ _ rfl (w.heap.size + 1 + 1 + 1) zeroV rfl rfl 30 zeroV (HW.out.later (belowBox _ _)).out sizeZ rfl oneZ ?_))
        refine bodyPost_ret (results_cell_row2 rfl _ _ (w.heap.size + 1 + 1 + 1) 30 _ (0, 0) _ rfl (setRow_heap _ _ _ _ _ _ (HW.out.later (belowBox _ _)).out) Tryd.underlying30 rfl sizeZ) rfl ?_
        exact idx_zero HR.out (by omega) (HW.out.later (belowBox _ _)).below
    · obtain rfl : j = 2 := by omega
      have HEA := Lib.hid (HQ.out.1 (by omega))
      have HEB := Lib.hid (HQ.out.2 (by omega))
      have c9 := HW.out.one.get0 HH.out.text
      have q11 := HH.out.list
      go_wp2_with fail
      refine (chars_prog v.text w1 (by omega) (tabs_below HT.out HW.out.below) HVS.out).mono ?_
      rintro e w2 ⟨a1, c1, rfl, hc1, hc2, hst, hb2⟩
      have HW2 := Lib.hid (HW.out.later hb2)
      have hs2 : w.heap.size + 1 + 1 + 1 + 1 < w2.heap.size := Nat.lt_of_lt_of_le hs1 hb2.size
      have HST := Lib.hid hst
      obtain ⟨l, hl⟩ : ∃ l, charsD v.text = l := ⟨_, rfl⟩
      have HL := Lib.hid hl
      obtain rfl : l = [] := by
        have h1 := chars_count HVS.out
        have h2 := HT0.out (by have := HK.out; omega)
        rw [hl, h2] at h1
        exact List.length_eq_zero_iff.1 (by omega)
      rw [hl] at HST hc1 ⊢
      obtain ⟨n, hn⟩ : ∃ n, v.list.length = n := ⟨_, rfl⟩
      have HNL := Lib.hid hn
      rw [hn] at hll q11 HLC
      have d11 := HW2.out.one.get0 q11
      clear hn
      clear hl hb2 hst c9 c0
      have HC1 := Lib.hid hc1
      have HC2 := Lib.hid hc2
      clear hc1 hc2
      go_wp2_with fail
      have hil := bndD_le a (show (0 : Nat) ≤ n by omega)
      have hkl := bndD_le b (Nat.le_refl n)
      obtain ⟨i, hi⟩ : ∃ i, bndD a n 0 = i := ⟨_, rfl⟩
      obtain ⟨k, hk⟩ : ∃ k, bndD b n n = k := ⟨_, rfl⟩
      rw [hi] at hil
      rw [hk] at hkl
      have HI := Lib.hid hi
      have HKK := Lib.hid hk
      obtain ⟨m, hm⟩ : ∃ m, m = max i k := ⟨_, rfl⟩
      have hmx : max (i : Int) (k : Int) = (m : Nat) := by omega
      have him : (i : Int) ≤ (m : Int) := by omega
      have hml : m ≤ n := by omega
      have hmc : (m : Int) ≤ (lc : Int) := by have := HLC.out; omega
      have HM := Lib.hid hm
      clear hm
      clear hi hk d11
      have D3 : Below w2.heap.size w2 w2.drew := ⟨rfl, rfl, rfl, Nat.le_refl _, fun _ _ => rfl⟩
      refine wp_region_held_drew (S := fun u => Below w2.heap.size w2 u) (by kernel_rfl) D3 (fun hHeld => ?_)
      refine' wpAnyH_take (i := 0) (v := _) rfl (by kernel_rfl) (by kernel_rfl) (by kernel_rfl) (fun _ _ _ h => h) (yieldsIf_load_mid (by rfl) 30 _ rfl (w.heap.size + 1) 0 rfl ds _ (fun u hu => (HW2.out.later hu).two.range) Tryd.underlying30 rfl hl2.out) (by assumption) ?_
      simp only [Act.put, List.setIfInBounds_toArray]
      refine' wpAnyH_take (i := 1) (v := _) rfl (by kernel_rfl) (by kernel_rfl) (by kernel_rfl) (fun _ _ _ h => h) (yieldsIf_move (by rfl) (.tmp 11) rfl (.int .i64 (n : Nat)) rfl) (by assumption) ?_
      simp only [Act.put]
      refine' wpAnyH_take (i := 3) (v := _) rfl (by kernel_rfl) (by kernel_rfl) (by kernel_rfl) (fun _ _ _ h => h) (yieldsIf_load_mid (by rfl) 30 _ rfl (w.heap.size + 1 + 1) 0 rfl es _ (fun u hu => (HW2.out.later hu).three.range) Tryd.underlying30 rfl hl3.out) (by assumption) ?_
      simp only [Act.put]
      refine' wpAnyH_take (i := 4) (v := _) rfl (by kernel_rfl) (by kernel_rfl) (by kernel_rfl) (fun _ _ _ h => h) (yieldsIf_move (by rfl) (.tmp 11) rfl (.int .i64 (n : Nat)) rfl) (by assumption) ?_
      simp only [Act.put]
      refine' wpAnyH_take (i := 5) (v := _) rfl (by kernel_rfl) (by kernel_rfl) (by kernel_rfl) (fun _ _ _ h => h) (yieldsIf_move (by rfl) (.tmp 11) rfl (.int .i64 (n : Nat)) rfl) (by assumption) ?_
      simp only [Act.put]
      refine wpAnyH_ready (rs := [2]) (by kernel_rfl) (by simp) ?_
      refine AllReadyH.cons rfl (fun K hK => ?_) AllReadyH.nil
      go_simp
      refine (bound_n a n 0 i HI.out _ w.heap.size N ds (by omega) HDA.out (HA.out.below (HW2.out.later hHeld).below)).mono ?_
      rintro e u1 ⟨rfl, hb1⟩
      refine hK.out _ _ (hHeld.trans (hb1.mono hHeld.size)) (fun hHeld1 => ?_)
      clear hK K hHeld hb1
      refine wpAnyH_ready (rs := [6]) (by kernel_rfl) (by simp) ?_
      refine AllReadyH.cons rfl (fun K hK => ?_) AllReadyH.nil
      go_simp
      refine (bound_n b n n k HKK.out _ w.heap.size N es (by omega) HDB.out (HB.out.below (HW2.out.later hHeld1).below)).mono ?_
      rintro e u2 ⟨rfl, hb2⟩
      refine hK.out _ _ (hHeld1.trans (hb2.mono hHeld1.size)) (fun hHeld2 => ?_)
      clear hK K hHeld1 hb2
      refine wpAnyH_ready (rs := [7]) (by kernel_rfl) (by simp) ?_
      refine AllReadyH.cons rfl (fun K hK => ?_) AllReadyH.nil
      go_simp
      refine hK.out _ _ hHeld2 (fun hHeld3 => ?_)
      clear hK K hHeld3
      refine wpAnyH_ready (rs := [8]) (by kernel_rfl) (by simp) ?_
      refine AllReadyH.cons rfl (fun K hK => ?_) AllReadyH.nil
      go_simp
      refine hK.out _ _ hHeld2 (fun hHeld3 => ?_)
      clear hK K hHeld3
      refine wpAnyH_done (by kernel_rfl) ?_ _
      have HW3 := Lib.hid (HW2.out.later hHeld2)
      have HST3 := Lib.hid (HST.out.below hHeld2)
      have c0 := HW3.out.one.get0 z0
      have d11 := HW3.out.one.get0 q11
      clear hHeld2 u1 D3
      have HFL := Lib.hid (show ∀ x ∈ (v.list.drop i).take (m - i), fitsV 59 x from fun x hx => HF.out.1 x (List.mem_of_mem_drop (List.mem_of_mem_take hx)))
      have HVL := Lib.hid (show ValsAt u2 w.heap.size N v.list la from HH.out.atList.below HW3.out.below)
      have HLL := Lib.hid (show ((v.list.drop i).take (m - i)).length = m - i by rw [List.length_take, List.length_drop, HNL.out]; omega)
      have HR := Lib.hid (show slcD v a b = resD (lisD ((v.list.drop i).take (m - i))) by
        unfold slcD
        rw [if_neg (by have := HK.out; omega), if_neg (by have := HEA.out; omega), if_neg (by have := HEB.out; omega), if_neg (by have := HK.out; omega), if_neg (by have := HK.out; omega), HNL.out, HI.out, HKK.out, show k - i = m - i by have := HM.out; omega])
      go_wp2_with fail
      all_goals
        refine (list_prog_n 59 (by omega) ((v.list.drop i).take (m - i)) (m - i) HLL.out HFL.out _ _ _ w.heap.size N hN (by omega) HW3.out.below.size (by first | exact vals_slice i (m - i) HVL.out | (rw [List.drop_of_length_le (by have := HLC.out; have := HNL.out; omega), List.take_nil]; trivial))).mono ?_
        rintro e w4 ⟨cs2, rfl, hsol, hb4⟩
        have HW4 := Lib.hid (HW3.out.later hb4)
        obtain ⟨r, hr⟩ : ∃ r, resD (lisD ((v.list.drop i).take (m - i))) = r := ⟨_, rfl⟩
        rw [hr] at hsol HR ⊢
        have hlen := hsol.here.len
        have AT := Lib.hid hsol.here
        have S1 := Lib.hid hsol
        clear hsol hb4 hr
        obtain ⟨rv, rk⟩ := r
        go_wp2_with ((with_reducible show wpList _ _ _ (⟨none, .store 30 (.tmp 6) _, _, _, _, _⟩ :: _) _ _); refine wpList_store_row rfl 30 _ _ rfl (w.heap.size + 1 + 1 + 1) cs2.toArray rfl rfl 30 zeroV HW4.out.out (row_size hlen) (row_zero hlen) (row_ones AT.out) ?_)
        refine bodyPost_ret (results_cell_row2 rfl _ _ (w.heap.size + 1 + 1 + 1) 30 _ (0, 0) _ rfl (setRow_heap _ _ _ _ _ _ HW4.out.out) Tryd.underlying30 rfl (row_size hlen)) rfl ?_
        rw [HR.out]
        exact ⟨cs2, rfl, S1.out _ (Apart.of_setRow0 cs2.toArray (by omega) (by have := HW3.out.size; omega)), below_setRow HW4.out.below (by omega) _⟩
end Go.Proofs.YtmbldgcbnkhabaaDoor
