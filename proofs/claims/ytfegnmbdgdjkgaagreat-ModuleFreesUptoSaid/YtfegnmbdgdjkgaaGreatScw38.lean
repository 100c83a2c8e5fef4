/- The reference's scope of an argument (datakitref38.within). -/
import Derived.Test.YtfegnmbdgdjkgaaGreatGS
namespace Go.Proofs.YtfegnmbdgdjkgaaGreat
open Go.RowKit

/-- The box of an expression, that of a scope, the result's cell. -/
structure BoxW (w u : World) (xs cs zs : List Value) (t : TypeId) : Prop where
  row : CellsAt u w.heap.size 0 xs
  sc : CellsAt u (w.heap.size + 1) 0 cs
  out : u.heap[w.heap.size + 2]? = some (.cells zs.toArray t (0, 0))
  low : Below w.heap.size w u
  size : w.heap.size + 3 ≤ u.heap.size
theorem BoxW.start (w : World) (xs cs zs : List Value) (tx t : TypeId) : BoxW w (((w.alloc (.cells xs.toArray tx)).alloc (.cells cs.toArray t)).alloc (.cells zs.toArray t)) xs cs zs t := by
  have s1 : (w.alloc (.cells xs.toArray tx)).heap.size = w.heap.size + 1 := World.size_alloc _ _
  have s2 : ((w.alloc (.cells xs.toArray tx)).alloc (.cells cs.toArray t)).heap.size = w.heap.size + 2 := by rw [World.size_alloc, s1]
  refine ⟨?_, ?_, ?_, belowThen (belowThen (belowBox w _) (belowBox _ _)) (belowBox _ _), by rw [World.size_alloc, s2]; omega⟩
  · exact ((box_at w xs tx).then (belowBox _ _) (by rw [s1]; omega)).then (belowBox _ _) (by rw [s2]; omega)
  · have h := (box_at (w.alloc (.cells xs.toArray tx)) cs t).then (belowBox _ (.cells zs.toArray t)) (by rw [s2, s1]; omega)
    rw [s1] at h
    exact h
  · have h := heap_alloc_new ((w.alloc (.cells xs.toArray tx)).alloc (.cells cs.toArray t)) (.cells zs.toArray t)
    rw [s2] at h
    exact h
theorem BoxW.below {w u u' : World} {xs cs zs : List Value} {t : TypeId} (h : BoxW w u xs cs zs t) (hb : Below u.heap.size u u') : BoxW w u' xs cs zs t :=
  ⟨h.row.then hb (by have := h.size; omega), h.sc.then hb (by have := h.size; omega), (hb.block _ (by have := h.size; omega)).trans h.out, belowThen h.low hb, Nat.le_trans h.size hb.size⟩
theorem innV_yes {op : Int} {nm : ByteArray} {i : Nat} (h : (op = 22 ∧ i = 1) ∨ (op = 19 ∧ i = 2) ∨ (op = 20 ∧ 2 ≤ i)) : innV op nm i = [nm] := by unfold innV; rw [if_pos h]
theorem innV_no {op : Int} {nm : ByteArray} {i : Nat} (h : ¬ ((op = 22 ∧ i = 1) ∨ (op = 19 ∧ i = 2) ∨ (op = 20 ∧ 2 ≤ i))) : innV op nm i = [] := by unfold innV; rw [if_neg h]

set_option maxRecDepth 100000 in
set_option maxHeartbeats 6400000 in
theorem within_r (x : ExprD) (xs : List Value) (i : Nat) (d : ScD) (cs : List Value) (w : World) (lo B C N : Nat) (hC : C ≤ 536870912) (hN : N ≤ 268435456) (hi : i ≤ N) (hB : B ≤ w.heap.size) (hlo : lo ≤ w.heap.size) (h : ScD.At w lo B C d cs) (hx : ExprD.At w B N x xs) :
    Calls Tryz.prog 30 #[.agg xs.toArray, .int .i64 i, .agg cs.toArray] w (ScV lo (C + N + 1) (d.vs ++ innV x.op x.name i) w) := by
  obtain ⟨aa, fa, ac, fc, vs, hh⟩ := hx.has
  have c0 := hh.op
  have c1 := hh.name
  have c16 := hh.funcs
  have hfl : x.funcs.length ≤ N := hh.own.2.2.2
  have HU := Lib.hid hh.atFuncs
  have HS := Lib.hid (h.mono (B' := w.heap.size) (K' := C) hB (Nat.le_refl _))
  have hlen := h.len
  have hsz := Lib.hid (show (Tryz.prog.info? 59).map (·.size) = some cs.length by rw [hlen]; kernel_rfl)
  have hsz2 := Lib.hid (show (Tryz.prog.info? 59).map (·.size) = some cs.toArray.size by rw [List.size_toArray, hlen]; kernel_rfl)
  have hsame0 := Lib.hid (show zero3.toArray.size = cs.toArray.size by rw [List.size_toArray, List.size_toArray, hlen]; rfl)
  have B0 := Lib.hid (BoxW.start w xs cs zero3 34 59)
  clear hh hx h hlen
  have hcase : (x.op = 22 ∧ i = 1) ∨ (x.op = 19 ∧ i = 2) ∨ (x.op = 20 ∧ 2 ≤ i) ∨ (x.op = 26) ∨ (x.op = 23) ∨ (x.op = 22 ∧ i ≠ 1) ∨ (x.op = 19 ∧ i ≠ 2) ∨ (x.op = 20 ∧ i < 2) ∨ (x.op ≠ 22 ∧ x.op ≠ 19 ∧ x.op ≠ 20 ∧ x.op ≠ 26 ∧ x.op ≠ 23) := by omega
  have hzc := Lib.hid (show ∀ u : World, u.heap[w.heap.size + 2]? = some (.cells zero3.toArray 59 (0, 0)) → u.cell? ⟨w.heap.size + 2, 0, none⟩ = some (.slice none 0 0) from fun u hu => by rw [cell_of_row u (w.heap.size + 2) 0 _ _ _ hu]; rfl)
  have hzs := Lib.hid (show ∀ (u : World) (K : Nat) (d3 : ScD) (es : List Value), ScD.At u lo u.heap.size K d3 es → (Tryz.prog.info? 59).map (·.size) = some es.toArray.size ∧ zero3.toArray.size = es.toArray.size from fun u K d3 es h => by
    rw [List.size_toArray, h.len]; exact ⟨by kernel_rfl, rfl⟩)
  have HS0 := Lib.hid ((HS.out.keep (Kept.of_below B0.out.low)).mono (B' := w.heap.size + 3) (K' := C) (by omega) (Nat.le_refl _))
  rcases hcase with h | h | h | h | h | h | h | h | h
  case inl =>
    obtain ⟨ho, rfl⟩ := h
    have HV := Lib.hid (innV_yes (nm := x.name) (.inl ⟨ho, rfl⟩))
    rw [ho] at c0 ⊢
    rw [ho] at HV
    clear ho
    have e0 := B0.out.row.get0 c0
    have e1 := B0.out.row.get0 c1
    go_enter Tryz.func30, Tryz.ntmps30
    go_wp2_with (refine wpList_load_mid rfl 59 _ rfl (w.heap.size + 1) 0 rfl cs _ B0.out.sc.range Tryz.underlying59 rfl hsz.out ?_)
    refine ((variable_r d x.name cs _ lo w.heap.size C (by omega) (by have := B0.out.size; omega) (by have := B0.out.size; omega) (HS.out.keep (Kept.of_below B0.out.low))).mono fun e w' h => h.v (C' := C + N + 1) (by omega)).mono ?_
    rintro e w3 ⟨d3, es3, hv3, rfl, hs3, hb3⟩
    have B3 := Lib.hid (B0.out.below hb3)
    have S3 := Lib.hid hs3
    have HV3 := Lib.hid hv3
    have HZ3 := Lib.hid (hzs.out _ _ _ _ hs3)
    clear hs3 hb3 hv3
    go_wp2_with (refine wpList_store_row rfl 59 _ _ rfl (w.heap.size + 1 + 1) es3.toArray rfl rfl 59 _ B3.out.out HZ3.out.1 HZ3.out.2 S3.out.ones ?_)
    have HOUT := setRow_heap w3 (w.heap.size + 2) _ es3.toArray _ _ B3.out.out
    refine bodyPost_ret (results_cell_row rfl _ _ (w.heap.size + 1 + 1) 59 _ (0, 0) _ rfl HOUT Tryz.underlying59 rfl HZ3.out.1) rfl ?_
    have h4 := S3.out.setRow (hzc.out _ B3.out.out) es3.toArray
    exact ⟨d3, es3, by rw [HV3.out, HV.out], rfl, h4.mono (by simp) (by omega), below_setRow B3.out.low (by omega) _⟩
  case inr.inl =>
    obtain ⟨ho, rfl⟩ := h
    have HV := Lib.hid (innV_yes (nm := x.name) (.inr (.inl ⟨ho, rfl⟩)))
    rw [ho] at c0 ⊢
    rw [ho] at HV
    clear ho
    have e0 := B0.out.row.get0 c0
    have e1 := B0.out.row.get0 c1
    go_enter Tryz.func30, Tryz.ntmps30
    go_wp2_with (refine wpList_load_mid rfl 59 _ rfl (w.heap.size + 1) 0 rfl cs _ B0.out.sc.range Tryz.underlying59 rfl hsz.out ?_)
    refine ((variable_r d x.name cs _ lo w.heap.size C (by omega) (by have := B0.out.size; omega) (by have := B0.out.size; omega) (HS.out.keep (Kept.of_below B0.out.low))).mono fun e w' h => h.v (C' := C + N + 1) (by omega)).mono ?_
    rintro e w3 ⟨d3, es3, hv3, rfl, hs3, hb3⟩
    have B3 := Lib.hid (B0.out.below hb3)
    have S3 := Lib.hid hs3
    have HV3 := Lib.hid hv3
    have HZ3 := Lib.hid (hzs.out _ _ _ _ hs3)
    clear hs3 hb3 hv3
    go_wp2_with (refine wpList_store_row rfl 59 _ _ rfl (w.heap.size + 1 + 1) es3.toArray rfl rfl 59 _ B3.out.out HZ3.out.1 HZ3.out.2 S3.out.ones ?_)
    have HOUT := setRow_heap w3 (w.heap.size + 2) _ es3.toArray _ _ B3.out.out
    refine bodyPost_ret (results_cell_row rfl _ _ (w.heap.size + 1 + 1) 59 _ (0, 0) _ rfl HOUT Tryz.underlying59 rfl HZ3.out.1) rfl ?_
    have h4 := S3.out.setRow (hzc.out _ B3.out.out) es3.toArray
    exact ⟨d3, es3, by rw [HV3.out, HV.out], rfl, h4.mono (by simp) (by omega), below_setRow B3.out.low (by omega) _⟩
  case inr.inr.inl =>
    obtain ⟨ho, h2⟩ := h
    have HV := Lib.hid (innV_yes (nm := x.name) (.inr (.inr ⟨ho, h2⟩)))
    rw [ho] at c0 ⊢
    rw [ho] at HV
    clear ho
    have h2' : (2 : Int) ≤ (i : Int) := by omega
    have e0 := B0.out.row.get0 c0
    have e1 := B0.out.row.get0 c1
    go_enter Tryz.func30, Tryz.ntmps30
    go_wp2_with (refine wpList_load_mid rfl 59 _ rfl (w.heap.size + 1) 0 rfl cs _ B0.out.sc.range Tryz.underlying59 rfl hsz.out ?_)
    refine ((variable_r d x.name cs _ lo w.heap.size C (by omega) (by have := B0.out.size; omega) (by have := B0.out.size; omega) (HS.out.keep (Kept.of_below B0.out.low))).mono fun e w' h => h.v (C' := C + N + 1) (by omega)).mono ?_
    rintro e w3 ⟨d3, es3, hv3, rfl, hs3, hb3⟩
    have B3 := Lib.hid (B0.out.below hb3)
    have S3 := Lib.hid hs3
    have HV3 := Lib.hid hv3
    have HZ3 := Lib.hid (hzs.out _ _ _ _ hs3)
    clear hs3 hb3 hv3
    go_wp2_with (refine wpList_store_row rfl 59 _ _ rfl (w.heap.size + 1 + 1) es3.toArray rfl rfl 59 _ B3.out.out HZ3.out.1 HZ3.out.2 S3.out.ones ?_)
    have HOUT := setRow_heap w3 (w.heap.size + 2) _ es3.toArray _ _ B3.out.out
    refine bodyPost_ret (results_cell_row rfl _ _ (w.heap.size + 1 + 1) 59 _ (0, 0) _ rfl HOUT Tryz.underlying59 rfl HZ3.out.1) rfl ?_
    have h4 := S3.out.setRow (hzc.out _ B3.out.out) es3.toArray
    exact ⟨d3, es3, by rw [HV3.out, HV.out], rfl, h4.mono (by simp) (by omega), below_setRow B3.out.low (by omega) _⟩
  case inr.inr.inr.inl =>
    have ho : x.op = 26 := h
    clear h
    have HV := Lib.hid (innV_no (op := x.op) (nm := x.name) (i := i) (by omega))
    rw [ho] at c0 ⊢
    rw [ho] at HV
    clear ho
    have e0 := B0.out.row.get0 c0
    have e1 := B0.out.row.get0 c1
    go_enter Tryz.func30, Tryz.ntmps30
    go_wp2_with (refine wpList_load_mid rfl 59 _ rfl (w.heap.size + 1) 0 rfl cs _ B0.out.sc.range Tryz.underlying59 rfl hsz.out ?_)
    refine ((label_r d x.name cs _ lo w.heap.size C (by omega) (by have := B0.out.size; omega) (by have := B0.out.size; omega) (HS.out.keep (Kept.of_below B0.out.low))).mono fun e w' h => h.v (C' := C + N + 1) (by omega)).mono ?_
    rintro e w3 ⟨d3, es3, hv3, rfl, hs3, hb3⟩
    have B3 := Lib.hid (B0.out.below hb3)
    have S3 := Lib.hid hs3
    have HV3 := Lib.hid hv3
    have HZ3 := Lib.hid (hzs.out _ _ _ _ hs3)
    clear hs3 hb3 hv3
    go_wp2_with (refine wpList_store_row rfl 59 _ _ rfl (w.heap.size + 1 + 1) es3.toArray rfl rfl 59 _ B3.out.out HZ3.out.1 HZ3.out.2 S3.out.ones ?_)
    have HOUT := setRow_heap w3 (w.heap.size + 2) _ es3.toArray _ _ B3.out.out
    refine bodyPost_ret (results_cell_row rfl _ _ (w.heap.size + 1 + 1) 59 _ (0, 0) _ rfl HOUT Tryz.underlying59 rfl HZ3.out.1) rfl ?_
    have h4 := S3.out.setRow (hzc.out _ B3.out.out) es3.toArray
    exact ⟨d3, es3, by rw [HV3.out, HV.out]; simp, rfl, h4.mono (by simp) (by omega), below_setRow B3.out.low (by omega) _⟩
  case inr.inr.inr.inr.inl =>
    have ho : x.op = 23 := h
    clear h
    have HV := Lib.hid (innV_no (op := x.op) (nm := x.name) (i := i) (by omega))
    rw [ho] at c0 ⊢
    rw [ho] at HV
    clear ho
    have e0 := B0.out.row.get0 c0
    have e1 := B0.out.row.get0 c1
    have e16 := B0.out.row.get0 c16
    go_enter Tryz.func30, Tryz.ntmps30
    go_wp2_with (refine wpList_load_mid rfl 59 _ rfl (w.heap.size + 1) 0 rfl cs _ B0.out.sc.range Tryz.underlying59 rfl hsz.out ?_)
    refine ((functions_r x.funcs fa fc d cs _ lo w.heap.size C N hC (by omega) hfl (by have := B0.out.size; omega) (by have := B0.out.size; omega) (HS.out.keep (Kept.of_below B0.out.low)) (FuncsAt.mono hB _ (FuncsAt.below (B0.out.low.mono hB) _ HU.out))).mono fun e w' h => h.v (C' := C + N + 1) (by omega)).mono ?_
    rintro e w3 ⟨d3, es3, hv3, rfl, hs3, hb3⟩
    have B3 := Lib.hid (B0.out.below hb3)
    have S3 := Lib.hid hs3
    have HV3 := Lib.hid hv3
    have HZ3 := Lib.hid (hzs.out _ _ _ _ hs3)
    clear hs3 hb3 hv3
    go_wp2_with (refine wpList_store_row rfl 59 _ _ rfl (w.heap.size + 1 + 1) es3.toArray rfl rfl 59 _ B3.out.out HZ3.out.1 HZ3.out.2 S3.out.ones ?_)
    have HOUT := setRow_heap w3 (w.heap.size + 2) _ es3.toArray _ _ B3.out.out
    refine bodyPost_ret (results_cell_row rfl _ _ (w.heap.size + 1 + 1) 59 _ (0, 0) _ rfl HOUT Tryz.underlying59 rfl HZ3.out.1) rfl ?_
    have h4 := S3.out.setRow (hzc.out _ B3.out.out) es3.toArray
    exact ⟨d3, es3, by rw [HV3.out, HV.out]; simp, rfl, h4.mono (by simp) (by omega), below_setRow B3.out.low (by omega) _⟩
  case inr.inr.inr.inr.inr.inl =>
    obtain ⟨ho, h2⟩ := h
    have HV := Lib.hid (innV_no (op := x.op) (nm := x.name) (i := i) (by omega))
    rw [ho] at c0 ⊢
    rw [ho] at HV
    clear ho
    have h2' : ((i : Int) == 1) = false := by simp; omega
    clear h2
    have e0 := B0.out.row.get0 c0
    have e1 := B0.out.row.get0 c1
    go_enter Tryz.func30, Tryz.ntmps30
    go_wp2_with (first
      | (refine wpList_load_mid rfl 59 _ rfl (w.heap.size + 1) 0 rfl cs _ B0.out.sc.range Tryz.underlying59 rfl hsz.out ?_)
      | (refine wpList_store_row rfl 59 _ _ rfl (w.heap.size + 1 + 1) cs.toArray rfl rfl 59 _ B0.out.out hsz2.out hsame0.out HS.out.ones ?_))
    have HOUT := setRow_heap _ (w.heap.size + 2) _ cs.toArray _ _ B0.out.out
    refine bodyPost_ret (results_cell_row rfl _ _ (w.heap.size + 1 + 1) 59 _ (0, 0) _ rfl HOUT Tryz.underlying59 rfl hsz2.out) rfl ?_
    have h4 := HS0.out.setRow (hzc.out _ B0.out.out) cs.toArray
    exact ⟨d, cs, by rw [HV.out]; simp, rfl, h4.mono (by simp) (by omega), below_setRow B0.out.low (by omega) _⟩
  case inr.inr.inr.inr.inr.inr.inl =>
    obtain ⟨ho, h2⟩ := h
    have HV := Lib.hid (innV_no (op := x.op) (nm := x.name) (i := i) (by omega))
    rw [ho] at c0 ⊢
    rw [ho] at HV
    clear ho
    have h2' : ((i : Int) == 2) = false := by simp; omega
    clear h2
    have e0 := B0.out.row.get0 c0
    have e1 := B0.out.row.get0 c1
    go_enter Tryz.func30, Tryz.ntmps30
    go_wp2_with (first
      | (refine wpList_load_mid rfl 59 _ rfl (w.heap.size + 1) 0 rfl cs _ B0.out.sc.range Tryz.underlying59 rfl hsz.out ?_)
      | (refine wpList_store_row rfl 59 _ _ rfl (w.heap.size + 1 + 1) cs.toArray rfl rfl 59 _ B0.out.out hsz2.out hsame0.out HS.out.ones ?_))
    have HOUT := setRow_heap _ (w.heap.size + 2) _ cs.toArray _ _ B0.out.out
    refine bodyPost_ret (results_cell_row rfl _ _ (w.heap.size + 1 + 1) 59 _ (0, 0) _ rfl HOUT Tryz.underlying59 rfl hsz2.out) rfl ?_
    have h4 := HS0.out.setRow (hzc.out _ B0.out.out) cs.toArray
    exact ⟨d, cs, by rw [HV.out]; simp, rfl, h4.mono (by simp) (by omega), below_setRow B0.out.low (by omega) _⟩
  case inr.inr.inr.inr.inr.inr.inr.inl =>
    obtain ⟨ho, h2⟩ := h
    have HV := Lib.hid (innV_no (op := x.op) (nm := x.name) (i := i) (by omega))
    rw [ho] at c0 ⊢
    rw [ho] at HV
    clear ho
    have h2' : ¬ (2 : Int) ≤ (i : Int) := by omega
    clear h2
    have e0 := B0.out.row.get0 c0
    have e1 := B0.out.row.get0 c1
    go_enter Tryz.func30, Tryz.ntmps30
    go_wp2_with (first
      | (refine wpList_load_mid rfl 59 _ rfl (w.heap.size + 1) 0 rfl cs _ B0.out.sc.range Tryz.underlying59 rfl hsz.out ?_)
      | (refine wpList_store_row rfl 59 _ _ rfl (w.heap.size + 1 + 1) cs.toArray rfl rfl 59 _ B0.out.out hsz2.out hsame0.out HS.out.ones ?_))
    have HOUT := setRow_heap _ (w.heap.size + 2) _ cs.toArray _ _ B0.out.out
    refine bodyPost_ret (results_cell_row rfl _ _ (w.heap.size + 1 + 1) 59 _ (0, 0) _ rfl HOUT Tryz.underlying59 rfl hsz2.out) rfl ?_
    have h4 := HS0.out.setRow (hzc.out _ B0.out.out) cs.toArray
    exact ⟨d, cs, by rw [HV.out]; simp, rfl, h4.mono (by simp) (by omega), below_setRow B0.out.low (by omega) _⟩
  case inr.inr.inr.inr.inr.inr.inr.inr =>
    obtain ⟨h22, h19, h20, h26, h23⟩ := h
    have HV := Lib.hid (innV_no (op := x.op) (nm := x.name) (i := i) (by omega))
    have q22 : (x.op == 22) = false := by simpa using h22
    have q19 : (x.op == 19) = false := by simpa using h19
    have q20 : (x.op == 20) = false := by simpa using h20
    have q26 : (x.op == 26) = false := by simpa using h26
    have q23 : (x.op == 23) = false := by simpa using h23
    clear h22 h19 h20 h26 h23
    have e0 := B0.out.row.get0 c0
    have e1 := B0.out.row.get0 c1
    go_enter Tryz.func30, Tryz.ntmps30
    go_wp2_with (first
      | (refine wpList_load_mid rfl 59 _ rfl (w.heap.size + 1) 0 rfl cs _ B0.out.sc.range Tryz.underlying59 rfl hsz.out ?_)
      | (refine wpList_store_row rfl 59 _ _ rfl (w.heap.size + 1 + 1) cs.toArray rfl rfl 59 _ B0.out.out hsz2.out hsame0.out HS.out.ones ?_))
    have HOUT := setRow_heap _ (w.heap.size + 2) _ cs.toArray _ _ B0.out.out
    refine bodyPost_ret (results_cell_row rfl _ _ (w.heap.size + 1 + 1) 59 _ (0, 0) _ rfl HOUT Tryz.underlying59 rfl hsz2.out) rfl ?_
    have h4 := HS0.out.setRow (hzc.out _ B0.out.out) cs.toArray
    exact ⟨d, cs, by rw [HV.out]; simp, rfl, h4.mono (by simp) (by omega), below_setRow B0.out.low (by omega) _⟩
end Go.Proofs.YtfegnmbdgdjkgaaGreat
