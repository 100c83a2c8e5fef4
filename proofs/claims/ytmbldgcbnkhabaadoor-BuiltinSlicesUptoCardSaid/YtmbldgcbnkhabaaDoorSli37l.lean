/- datakitref37.Slice: what it gives: the same as builtin.Slice. -/
import Derived.Test.YtmbldgcbnkhabaaDoorSli37k
import Derived.Test.YtmbldgcbnkhabaaDoorSli37j
namespace Go.Proofs.YtmbldgcbnkhabaaDoor
open Go.RowKit

theorem bref_n (v : ValD) (n u : Nat) (x k : Int) (h1 : (if bndE v = 0 then (bndD v n u : Int) else 0) = x) (h2 : bndE v = k) (w : World) (B N : Nat) (cs : List Value) (hn : n ≤ 4294967296) (hd : VDec v.num) (hv : ValD.At w B N v cs) :
    Calls Tryd.prog 33 #[.agg cs.toArray, .int .i64 n, .int .i64 u] w (TwoR x k w) := by
  rw [← h1, ← h2]
  exact bound_ref v n u w B N cs hn hd hv
/-- The value itself, or the error. -/
def RexR (v : ValD) (cs : List Value) (w : World) (e : Ending) (w' : World) : Prop := ((chkD v = 0 ∧ e = .returned (.tuple #[.agg cs.toArray, .int .i64 0])) ∨ (chkD v ≠ 0 ∧ e = .returned (.tuple #[.agg zeroV, .int .i64 (chkD v)]))) ∧ Below w.heap.size w w'
set_option maxRecDepth 100000 in
set_option maxHeartbeats 3200000 in
theorem result_rex (v : ValD) (w : World) (B N : Nat) (cs : List Value) (hN : N ≤ 4294967296) (hB : B ≤ w.heap.size) (hv : ValD.At w B N v cs) :
    Calls Tryd.prog 46 #[.agg cs.toArray] w (RexR v cs w) := by
  have HV := Lib.hid hv
  have hlen := hv.len
  have hl := Lib.hid (show (Tryd.prog.info? 30).map (·.size) = some cs.length by rw [hv.len]; exact sizeV)
  have H0 := Lib.hid (belowThen (belowBox w (.cells cs.toArray 30)) (belowBox (w.alloc (.cells cs.toArray 30)) (.cells zeroV 30)))
  have HS := Lib.hid (show ((w.alloc (.cells cs.toArray 30)).alloc (.cells zeroV 30)).heap.size = w.heap.size + 1 + 1 by rw [World.size_alloc, World.size_alloc])
  have R0 := Lib.hid ((box_at w cs 30).then (belowBox (w.alloc (.cells cs.toArray 30)) (.cells zeroV 30)) (by rw [World.size_alloc]; omega))
  have Z0 := Lib.hid (show RowAt ((w.alloc (.cells cs.toArray 30)).alloc (.cells zeroV 30)) (w.heap.size + 1) zeroV.toList from by
    have h := heap_alloc_new (w.alloc (.cells cs.toArray 30)) (.cells zeroV 30)
    rw [World.size_alloc] at h
    exact h)
  obtain ⟨k, hk⟩ : ∃ k, chkD v = k := ⟨_, rfl⟩
  have HK := Lib.hid hk
  clear hv
  go_enter Tryd.func46, Tryd.ntmps46
  go_wp2_with ((with_reducible show wpList _ _ _ (⟨some 5, _, _, _, _, _⟩ :: _) _ _); refine wpList_load_mid rfl 30 _ rfl w.heap.size 0 rfl cs _ R0.out.range Tryd.underlying30 rfl hl.out ?_)
  refine (check07_exact v _ B N cs hN (Nat.le_trans hB H0.out.size) (HV.out.below (H0.out.mono hB))).mono ?_
  rintro e w1 ⟨rfl, hb1⟩
  have H1 := Lib.hid (belowThen H0.out hb1)
  have R1 := Lib.hid (R0.out.then hb1 (by rw [HS.out]; omega))
  have Z1 := Lib.hid (Z0.out.below hb1 (by rw [HS.out]; omega))
  have hs1 : w.heap.size + 1 + 1 ≤ w1.heap.size := by have := hb1.size; rw [HS.out] at this; omega
  clear hb1
  rw [hk]
  clear hk
  by_cases hk0 : k = 0
  · subst hk0
    go_wp2_with (first
      | ((with_reducible show wpList _ _ _ (⟨some 11, _, _, _, _, _⟩ :: _) _ _); refine wpList_load_mid rfl 30 _ rfl w.heap.size 0 rfl cs _ R1.out.range Tryd.underlying30 rfl hl.out ?_)
      | ((with_reducible show wpList _ _ _ (⟨none, .store 30 (.tmp 2) _, _, _, _, _⟩ :: _) _ _); refine wpList_store_row rfl 30 _ _ rfl (w.heap.size + 1) cs.toArray rfl rfl 30 zeroV Z1.out (row_size hlen) (row_zero hlen) (row_ones HV.out) ?_))
    refine bodyPost_ret (results_cell_row2 rfl _ _ (w.heap.size + 1) 30 _ (0, 0) _ rfl (setRow_heap _ _ _ _ _ _ Z1.out) Tryd.underlying30 rfl (row_size hlen)) rfl ?_
    exact ⟨.inl ⟨HK.out, rfl⟩, below_setRow H1.out (by omega) cs.toArray⟩
  · have hk1 : (k == 0) = false := by simpa using hk0
    have hk2 : (k != 0) = true := by simpa using hk0
    have HK0 := Lib.hid hk0
    clear hk0
    go_wp2_with ((with_reducible show wpList _ _ _ (⟨none, .store 30 (.tmp 2) _, _, _, _, _⟩ :: _) _ _); refine wpList_store_row rfl 30 _ _ rfl (w.heap.size + 1) zeroV rfl rfl 30 zeroV Z1.out sizeZ rfl oneZ ?_)
    refine bodyPost_ret (results_cell_row2 rfl _ _ (w.heap.size + 1) 30 _ (0, 0) _ rfl (setRow_heap _ _ _ _ _ _ Z1.out) Tryd.underlying30 rfl sizeZ) rfl ?_
    exact ⟨.inr ⟨by rw [HK.out]; exact HK0.out, by rw [HK.out]; rfl⟩, below_setRow H1.out (by omega) zeroV⟩
set_option maxRecDepth 100000 in
set_option maxHeartbeats 1600000 in
theorem list_rex (l : List ValD) (n : Nat) (hn : l.length = n) (a : Option Addr) (c : Nat) (w : World) (B N : Nat) (hN : N ≤ 4294967296) (hl : n ≤ N) (hB : B ≤ w.heap.size) (h : ValsAt w B N l a) :
    Calls Tryd.prog 35 #[.slice a n c] w (RexR (lisD l) (lisR l a c) w) := by
  have HA := Lib.hid (lisD_at c (by omega) h)
  have H0 := Lib.hid (belowBox w (.cells zeroV 30))
  have Z0 := Lib.hid (show RowAt (w.alloc (.cells zeroV 30)) w.heap.size zeroV.toList from heap_alloc_new w (.cells zeroV 30))
  subst hn
  clear h
  go_enter Tryd.func35, Tryd.ntmps35
  go_wp2_with fail
  refine (result_rex (lisD l) _ B N (lisR l a c) hN (Nat.le_trans hB H0.out.size) (HA.out.below (H0.out.mono hB))).mono ?_
  rintro e w1 ⟨hor, hb⟩
  have H1 := Lib.hid (belowThen H0.out hb)
  have Z1 := Lib.hid (Z0.out.below hb (by rw [World.size_alloc]; omega))
  have hlen : (lisR l a c).length = 13 := rfl
  clear hb
  rcases hor with ⟨hk, rfl⟩ | ⟨hk, rfl⟩
  · have HK := Lib.hid hk
    clear hk
    go_wp2_with ((with_reducible show wpList _ _ _ (⟨none, .store 30 (.tmp 2) _, _, _, _, _⟩ :: _) _ _); refine wpList_store_row rfl 30 _ _ rfl w.heap.size (lisR l a c).toArray rfl rfl 30 zeroV Z1.out (row_size hlen) (row_zero hlen) (row_ones HA.out) ?_)
    refine bodyPost_ret (results_cell_row2 rfl _ _ w.heap.size 30 _ (0, 0) _ rfl (setRow_heap _ _ _ _ _ _ Z1.out) Tryd.underlying30 rfl (row_size hlen)) rfl ?_
    exact ⟨.inl ⟨HK.out, rfl⟩, below_setRow H1.out (Nat.le_refl _) _⟩
  · obtain ⟨k, hkk⟩ : ∃ k, chkD (lisD l) = k := ⟨_, rfl⟩
    have HK := Lib.hid hk
    have HKK := Lib.hid hkk
    rw [hkk]
    clear hk hkk
    go_wp2_with ((with_reducible show wpList _ _ _ (⟨none, .store 30 (.tmp 2) _, _, _, _, _⟩ :: _) _ _); refine wpList_store_row rfl 30 _ _ rfl w.heap.size zeroV rfl rfl 30 zeroV Z1.out sizeZ rfl oneZ ?_)
    refine bodyPost_ret (results_cell_row2 rfl _ _ w.heap.size 30 _ (0, 0) _ rfl (setRow_heap _ _ _ _ _ _ Z1.out) Tryd.underlying30 rfl sizeZ) rfl ?_
    exact ⟨.inr ⟨HK.out, by rw [HKK.out]; rfl⟩, below_setRow H1.out (Nat.le_refl _) _⟩
theorem own_same {w w' : World} {base : Nat} {e : TypeId} {size : Nat} {v : Value} {n : Nat} {xs : List Value} (h : w.ownsRow base e size v n xs) (hs : ∀ q, base ≤ q → q < w.heap.size → w'.heap[q]? = w.heap[q]?) : w'.ownsRow base e size v n xs := by
  obtain ⟨h1, h2⟩ := h
  refine ⟨h1, ?_⟩
  rcases h2 with h2 | ⟨g, cap, cur, hv, hg, hh, r⟩
  · exact Or.inl h2
  · exact Or.inr ⟨g, cap, cur, hv, hg, by rw [hs g hg (Array.getElem?_eq_some_iff.1 hh).1]; exact hh, r⟩
theorem joinD_append : ∀ a b : List ByteArray, joinD (a ++ b) = joinD a ++ joinD b
  | [], b => by
    show joinD b = ⟨#[]⟩ ++ joinD b
    apply ByteArray.ext
    simp
  | x :: a, b => by
    show x ++ joinD (a ++ b) = (x ++ joinD a) ++ joinD b
    rw [joinD_append a b, ByteArray.append_assoc]
theorem joinD_size {N : Nat} : ∀ l : List ByteArray, (∀ s ∈ l, s.size ≤ N) → (joinD l).size ≤ l.length * N
  | [], _ => Nat.zero_le _
  | x :: l, h => by
    have h1 := joinD_size l (fun s hs => h s (by simp [hs]))
    have h2 := h x (by simp)
    show (x ++ joinD l).size ≤ _
    rw [ByteArray.size_append, List.length_cons, Nat.succ_mul]
    omega
theorem vals_text {w : World} {B N : Nat} {l : List ValD} {a : Option Addr} (h : ValsAt w B N l a) : ∀ s ∈ l.map (·.text), s.size ≤ N := fun s hs => by
  obtain ⟨x, hx, rfl⟩ := List.mem_map.1 hs
  obtain ⟨j, hj, rfl⟩ := List.getElem_of_mem hx
  obtain ⟨b, o, _, _, hg⟩ := h.get (List.ne_nil_of_mem hx)
  obtain ⟨cs, _, h2⟩ := hg j hj
  obtain ⟨_, _, _, _, _, _, hh⟩ := h2.has
  exact hh.own.2.2.2.2.2.2.2.1
theorem joinD_part {w : World} {B N n : Nat} {l : List ValD} {a : Option Addr} (h : ValsAt w B N l a) (hN : N ≤ 16777216) (hn : l.length = n) (hn2 : n ≤ 16777216) (i j : Nat) : (joinD (((l.map (·.text)).drop i).take j)).size ≤ 281474976710656 := by
  have h1 := joinD_size (((l.map (·.text)).drop i).take j) (fun s hs => vals_text h s (List.mem_of_mem_drop (List.mem_of_mem_take hs)))
  have h2 : (((l.map (·.text)).drop i).take j).length ≤ n := by
    rw [List.length_take, List.length_drop, List.length_map]
    omega
  have h3 := Nat.mul_le_mul h2 (Nat.le_refl N)
  have h4 := Nat.mul_le_mul hn2 hN
  omega
theorem joinD_snoc (l : List ByteArray) (i j : Nat) (h : i + j < l.length) : joinD ((l.drop i).take j) ++ l[i + j] = joinD ((l.drop i).take (j + 1)) := by
  have hl : j < (l.drop i).length := by rw [List.length_drop]; omega
  rw [List.take_succ_eq_append_getElem hl, joinD_append]
  congr 1
  rw [List.getElem_drop]
  show l[i + j] = l[i + j] ++ ⟨#[]⟩
  apply ByteArray.ext
  simp

set_option maxRecDepth 100000 in
set_option maxHeartbeats 1600000 in
theorem slice_ref_no (v a b : ValD) (w : World) (N : Nat) (cs ds es : List Value) (hv : ValD.At w w.heap.size N v cs) (hA : v.kind ≠ 0 ∧ v.kind ≠ 4 ∧ v.kind ≠ 6) :
    Calls Tryd.prog 13 #[.agg cs.toArray, .agg ds.toArray, .agg es.toArray] w (IdxR N (slcD v a b) w) := by
  obtain ⟨ya, la, va, yc, lc, vc, hh⟩ := hv.has
  have z0 := hh.kind
  clear hv hh
  have HW := Lib.hid (four_boxes w cs ds es)
  have HR := Lib.hid (show slcD v a b = (zeroD, 6) by unfold slcD; rw [if_pos hA])
  obtain ⟨k, hk⟩ : ∃ k, v.kind = k := ⟨_, rfl⟩
  rw [hk] at z0 hA
  obtain ⟨h1, h2, h3⟩ := hA
  have g1 : (k == 0) = false := by simpa using h1
  have g2 : (k == 4) = false := by simpa using h2
  have g3 : (k == 6) = false := by simpa using h3
  have g4 : (k != 0) = true := by simpa using h1
  have g5 : (k != 4) = true := by simpa using h2
  have g6 : (k != 6) = true := by simpa using h3
  clear hk h1 h2 h3
  go_enter Tryd.func13, Tryd.ntmps13
  go_wp2_with fail
  refine (none_ref 6 _).mono ?_
  rintro e w2 ⟨rfl, hb⟩
  have HW2 := Lib.hid (HW.out.later hb)
  clear hb
  go_wp2_with ((with_reducible show wpList _ _ _ (⟨none, .store 30 (.tmp 6) _, _, _, _, _⟩ :: _) _ _); refine wpList_store_row rfl 30 _ _ rfl (w.heap.size + 1 + 1 + 1) zeroV rfl rfl 30 zeroV HW2.out.out sizeZ rfl oneZ ?_)
  all_goals
    refine bodyPost_ret (results_cell_row2 rfl _ _ (w.heap.size + 1 + 1 + 1) 30 _ (0, 0) _ rfl (setRow_heap _ _ _ _ _ _ HW2.out.out) Tryd.underlying30 rfl sizeZ) rfl ?_
    exact idx_zero HR.out (by omega) HW2.out.below

set_option maxRecDepth 100000 in
set_option maxHeartbeats 6400000 in
theorem slice_ref0 (v a b : ValD) (w : World) (N : Nat) (cs ds es : List Value) (hl0 : v.kind ≠ 6 → v.list = []) (hda : VDec a.num) (hdb : VDec b.num) (hv : ValD.At w w.heap.size N v cs) (ha : ValD.At w w.heap.size N a ds) (hb : ValD.At w w.heap.size N b es) (hk : v.kind = 0) :
    Calls Tryd.prog 13 #[.agg cs.toArray, .agg ds.toArray, .agg es.toArray] w (IdxR N (slcD v a b) w) := by
  obtain ⟨ya, la, va, yc, lc, vc, hh⟩ := hv.has
  have hll : v.list.length ≤ N := hh.own.2.2.2.2.2.2.2.2.2.1
  have HH := Lib.hid hh
  have HV := Lib.hid hv
  have HA := Lib.hid ha
  have HB := Lib.hid hb
  have HDA := Lib.hid hda
  have HDB := Lib.hid hdb
  have hl2 := Lib.hid (show (Tryd.prog.info? 30).map (·.size) = some ds.length by rw [ha.len]; exact sizeV)
  have hl3 := Lib.hid (show (Tryd.prog.info? 30).map (·.size) = some es.length by rw [hb.len]; exact sizeV)
  clear hv ha hb hda hdb hh
  have HW := Lib.hid (four_boxes w cs ds es)
  have z0 := HH.out.kind
  have hA : ¬ (v.kind ≠ 0 ∧ v.kind ≠ 4 ∧ v.kind ≠ 6) := by omega
  have HE1 := Lib.hid (show bndE a ≠ 0 → slcD v a b = (zeroD, bndE a) from fun h => by unfold slcD; rw [if_neg hA, if_pos h])
  have HE2 := Lib.hid (show bndE a = 0 → bndE b ≠ 0 → slcD v a b = (zeroD, bndE b) from fun h1 h2 => by unfold slcD; rw [if_neg hA, if_neg (by omega), if_pos h2])
  have HK := Lib.hid hk
  rw [hk] at z0
  clear hA hk
  obtain ⟨n, hn⟩ : ∃ n : Nat, n = 0 := ⟨_, rfl⟩
  have q11 : cs[11]? = some (.slice la n lc) := by
    have h := HH.out.list
    rw [hl0 (by have := HK.out; omega)] at h
    rw [hn]
    exact h
  have hnN : n ≤ 4294967296 := by omega
  have HW2 := HW
  clear hn
  go_enter Tryd.func13, Tryd.ntmps13
  go_wp2_with ((with_reducible show wpList _ _ _ (⟨some 42, _, _, _, _, _⟩ :: _) _ _); refine wpList_load_mid rfl 30 _ rfl (w.heap.size + 1) 0 rfl ds _ HW2.out.two.range Tryd.underlying30 rfl hl2.out ?_)
  obtain ⟨xa, hxa⟩ : ∃ x, (if bndE a = 0 then (bndD a n 0 : Int) else 0) = x := ⟨_, rfl⟩
  obtain ⟨xb, hxb⟩ : ∃ x, (if bndE b = 0 then (bndD b n n : Int) else 0) = x := ⟨_, rfl⟩
  obtain ⟨ea, hea⟩ : ∃ e, bndE a = e := ⟨_, rfl⟩
  obtain ⟨eb, heb⟩ : ∃ e, bndE b = e := ⟨_, rfl⟩
  have HXA := Lib.hid hxa
  have HXB := Lib.hid hxb
  have HEA := Lib.hid hea
  have HEB := Lib.hid heb
  clear hxa hxb hea heb
  refine (bref_n a n 0 xa ea HXA.out HEA.out _ w.heap.size N ds hnN HDA.out (HA.out.below HW2.out.below)).mono ?_
  rintro e w3 ⟨rfl, hb3⟩
  have HW3 := Lib.hid (HW2.out.later hb3)
  clear hb3
  have c0 := HW3.out.one.get0 z0
  by_cases h1 : ea ≠ 0
  · have HR := Lib.hid (show slcD v a b = (zeroD, ea) by rw [HE1.out (by rw [HEA.out]; exact h1), HEA.out])
    have g1 : (ea == 0) = false := by simpa using h1
    have g2 : (ea != 0) = true := by simpa using h1
    clear h1
    go_wp2_with ((with_reducible show wpList _ _ _ (⟨none, .store 30 (.tmp 6) _, _, _, _, _⟩ :: _) _ _); refine wpList_store_row rfl 30 _ _ rfl (w.heap.size + 1 + 1 + 1) zeroV rfl rfl 30 zeroV HW3.out.out sizeZ rfl oneZ ?_)
    refine bodyPost_ret (results_cell_row2 rfl _ _ (w.heap.size + 1 + 1 + 1) 30 _ (0, 0) _ rfl (setRow_heap _ _ _ _ _ _ HW3.out.out) Tryd.underlying30 rfl sizeZ) rfl ?_
    exact idx_zero HR.out (by omega) HW3.out.below
  · obtain rfl : ea = 0 := Decidable.not_not.1 h1
    go_wp2_with ((with_reducible show wpList _ _ _ (⟨some 53, _, _, _, _, _⟩ :: _) _ _); refine wpList_load_mid rfl 30 _ rfl (w.heap.size + 1 + 1) 0 rfl es _ HW3.out.three.range Tryd.underlying30 rfl hl3.out ?_)
    refine (bref_n b n n xb eb HXB.out HEB.out _ w.heap.size N es hnN HDB.out (HB.out.below HW3.out.below)).mono ?_
    rintro e w4 ⟨rfl, hb4⟩
    have HW4 := Lib.hid (HW3.out.later hb4)
    clear hb4 c0
    have c0 := HW4.out.one.get0 z0
    by_cases h2 : eb ≠ 0
    · have HR := Lib.hid (show slcD v a b = (zeroD, eb) by rw [HE2.out HEA.out (by rw [HEB.out]; exact h2), HEB.out])
      have g1 : (eb == 0) = false := by simpa using h2
      have g2 : (eb != 0) = true := by simpa using h2
      clear h2
      go_wp2_with ((with_reducible show wpList _ _ _ (⟨none, .store 30 (.tmp 6) _, _, _, _, _⟩ :: _) _ _); refine wpList_store_row rfl 30 _ _ rfl (w.heap.size + 1 + 1 + 1) zeroV rfl rfl 30 zeroV HW4.out.out sizeZ rfl oneZ ?_)
      refine bodyPost_ret (results_cell_row2 rfl _ _ (w.heap.size + 1 + 1 + 1) 30 _ (0, 0) _ rfl (setRow_heap _ _ _ _ _ _ HW4.out.out) Tryd.underlying30 rfl sizeZ) rfl ?_
      exact idx_zero HR.out (by omega) HW4.out.below
    · obtain rfl : eb = 0 := Decidable.not_not.1 h2
      have HR := Lib.hid (show slcD v a b = (zeroD, 0) by
        unfold slcD
        rw [if_neg (by have := HK.out; omega), if_neg (by have := HEA.out; omega), if_neg (by have := HEB.out; omega), if_pos HK.out])
      go_wp2_with ((with_reducible show wpList _ _ _ (⟨none, .store 30 (.tmp 6) _, _, _, _, _⟩ :: _) _ _); refine wpList_store_row rfl 30 _ _ rfl (w.heap.size + 1 + 1 + 1) zeroV rfl rfl 30 zeroV HW4.out.out sizeZ rfl oneZ ?_)
      refine bodyPost_ret (results_cell_row2 rfl _ _ (w.heap.size + 1 + 1 + 1) 30 _ (0, 0) _ rfl (setRow_heap _ _ _ _ _ _ HW4.out.out) Tryd.underlying30 rfl sizeZ) rfl ?_
      exact idx_zero HR.out (by omega) HW4.out.below

set_option maxRecDepth 100000 in
set_option maxHeartbeats 6400000 in
theorem slice_ref4 (v a b : ValD) (w : World) (N : Nat) (cs ds es : List Value) (hN : N ≤ 16777216) (hvs : validS v.text = true) (hts : v.text.size ≤ 65536) (hda : VDec a.num) (hdb : VDec b.num) (hv : ValD.At w w.heap.size N v cs) (ha : ValD.At w w.heap.size N a ds) (hb : ValD.At w w.heap.size N b es) (hk : v.kind = 4) :
    Calls Tryd.prog 13 #[.agg cs.toArray, .agg ds.toArray, .agg es.toArray] w (IdxR N (slcD v a b) w) := by
  obtain ⟨ya, la, va, yc, lc, vc, hh⟩ := hv.has
  have hll : v.list.length ≤ N := hh.own.2.2.2.2.2.2.2.2.2.1
  have HH := Lib.hid hh
  have HV := Lib.hid hv
  have HA := Lib.hid ha
  have HB := Lib.hid hb
  have HDA := Lib.hid hda
  have HDB := Lib.hid hdb
  have hl2 := Lib.hid (show (Tryd.prog.info? 30).map (·.size) = some ds.length by rw [ha.len]; exact sizeV)
  have hl3 := Lib.hid (show (Tryd.prog.info? 30).map (·.size) = some es.length by rw [hb.len]; exact sizeV)
  clear hv ha hb hda hdb hh
  have HW := Lib.hid (four_boxes w cs ds es)
  have z0 := HH.out.kind
  have hA : ¬ (v.kind ≠ 0 ∧ v.kind ≠ 4 ∧ v.kind ≠ 6) := by omega
  have HE1 := Lib.hid (show bndE a ≠ 0 → slcD v a b = (zeroD, bndE a) from fun h => by unfold slcD; rw [if_neg hA, if_pos h])
  have HE2 := Lib.hid (show bndE a = 0 → bndE b ≠ 0 → slcD v a b = (zeroD, bndE b) from fun h1 h2 => by unfold slcD; rw [if_neg hA, if_neg (by omega), if_pos h2])
  have HK := Lib.hid hk
  rw [hk] at z0
  clear hA hk
  have q9 := HH.out.text
  have q11 := HH.out.list
  have HVS := Lib.hid hvs
  have hN4 : v.text.size ≤ N := HH.out.own.2.2.2.2.2.2.2.1
  clear hvs
  go_enter Tryd.func13, Tryd.ntmps13
  go_wp2_with fail
  refine (chars_ref v.text _ (by omega) HVS.out).mono ?_
  rintro e w1 ⟨a1, c1, rfl, hc1, hc2, hst, hb1⟩
  have HW1 := Lib.hid (HW.out.later hb1)
  have HST := Lib.hid hst
  obtain ⟨l, hl⟩ : ∃ l, charsD v.text = l := ⟨_, rfl⟩
  have HL := Lib.hid hl
  have hcn : l.length ≤ 65536 := by have := chars_count HVS.out; rw [hl] at this; omega
  have HLS := Lib.hid (show ∀ s ∈ l, s.size ≤ N from fun s hs => by
    rw [← hl] at hs
    obtain ⟨j, hj, rfl⟩ := List.getElem_of_mem hs
    rw [chars_get HVS.out hj, ByteArray.size_extract]
    omega)
  rw [hl] at HST hc1 ⊢
  clear hl hb1 hst hc1 hc2
  go_wp2_with fail
  refine (texts_ref l a1 c1 w1 N (by omega) HLS.out HST.out).mono ?_
  rintro e w2 ⟨a8, c8, rfl, hc8, hv8, hb2⟩
  have HW2 := Lib.hid (HW1.out.later hb2)
  obtain ⟨L, hL⟩ : ∃ L, l.map textD = L := ⟨_, rfl⟩
  rw [hL] at hv8 ⊢
  have HTL := Lib.hid (show L.map (·.text) = l by
    rw [← hL, List.map_map]
    exact List.map_id' l)
  have hLl : L.length = l.length := by rw [← hL, List.length_map]
  obtain ⟨n, hn⟩ : ∃ n : Nat, L.length = n := ⟨_, rfl⟩
  have HNN := Lib.hid (show l.length = n by omega)
  have hnN : n ≤ 4294967296 := by omega
  rw [hn]
  have HLN := Lib.hid hn
  have HVL := Lib.hid hv8
  clear hn hL hv8 hb2 hLl hc8
  have c0 := HW2.out.one.get0 z0
  go_wp2_with ((with_reducible show wpList _ _ _ (⟨some 42, _, _, _, _, _⟩ :: _) _ _); refine wpList_load_mid rfl 30 _ rfl (w.heap.size + 1) 0 rfl ds _ HW2.out.two.range Tryd.underlying30 rfl hl2.out ?_)
  obtain ⟨xa, hxa⟩ : ∃ x, (if bndE a = 0 then (bndD a n 0 : Int) else 0) = x := ⟨_, rfl⟩
  obtain ⟨xb, hxb⟩ : ∃ x, (if bndE b = 0 then (bndD b n n : Int) else 0) = x := ⟨_, rfl⟩
  obtain ⟨ea, hea⟩ : ∃ e, bndE a = e := ⟨_, rfl⟩
  obtain ⟨eb, heb⟩ : ∃ e, bndE b = e := ⟨_, rfl⟩
  have HXA := Lib.hid hxa
  have HXB := Lib.hid hxb
  have HEA := Lib.hid hea
  have HEB := Lib.hid heb
  clear hxa hxb hea heb
  refine (bref_n a n 0 xa ea HXA.out HEA.out _ w.heap.size N ds hnN HDA.out (HA.out.below HW2.out.below)).mono ?_
  rintro e w3 ⟨rfl, hb3⟩
  have HW3 := Lib.hid (HW2.out.later hb3)
  have HVL3 := Lib.hid ((HVL.out.below hb3).mono hb3.size)
  clear hb3
  have c0 := HW3.out.one.get0 z0
  by_cases h1 : ea ≠ 0
  · have HR := Lib.hid (show slcD v a b = (zeroD, ea) by rw [HE1.out (by rw [HEA.out]; exact h1), HEA.out])
    have g1 : (ea == 0) = false := by simpa using h1
    have g2 : (ea != 0) = true := by simpa using h1
    clear h1
    go_wp2_with ((with_reducible show wpList _ _ _ (⟨none, .store 30 (.tmp 6) _, _, _, _, _⟩ :: _) _ _); refine wpList_store_row rfl 30 _ _ rfl (w.heap.size + 1 + 1 + 1) zeroV rfl rfl 30 zeroV HW3.out.out sizeZ rfl oneZ ?_)
    refine bodyPost_ret (results_cell_row2 rfl _ _ (w.heap.size + 1 + 1 + 1) 30 _ (0, 0) _ rfl (setRow_heap _ _ _ _ _ _ HW3.out.out) Tryd.underlying30 rfl sizeZ) rfl ?_
    exact idx_zero HR.out (by omega) HW3.out.below
  · obtain rfl : ea = 0 := Decidable.not_not.1 h1
    go_wp2_with ((with_reducible show wpList _ _ _ (⟨some 53, _, _, _, _, _⟩ :: _) _ _); refine wpList_load_mid rfl 30 _ rfl (w.heap.size + 1 + 1) 0 rfl es _ HW3.out.three.range Tryd.underlying30 rfl hl3.out ?_)
    refine (bref_n b n n xb eb HXB.out HEB.out _ w.heap.size N es hnN HDB.out (HB.out.below HW3.out.below)).mono ?_
    rintro e w4 ⟨rfl, hb4⟩
    have HW4 := Lib.hid (HW3.out.later hb4)
    have HVL4 := Lib.hid ((HVL3.out.below hb4).mono hb4.size)
    clear hb4 c0
    have c0 := HW4.out.one.get0 z0
    by_cases h2 : eb ≠ 0
    · have HR := Lib.hid (show slcD v a b = (zeroD, eb) by rw [HE2.out HEA.out (by rw [HEB.out]; exact h2), HEB.out])
      have g1 : (eb == 0) = false := by simpa using h2
      have g2 : (eb != 0) = true := by simpa using h2
      clear h2
      go_wp2_with ((with_reducible show wpList _ _ _ (⟨none, .store 30 (.tmp 6) _, _, _, _, _⟩ :: _) _ _); refine wpList_store_row rfl 30 _ _ rfl (w.heap.size + 1 + 1 + 1) zeroV rfl rfl 30 zeroV HW4.out.out sizeZ rfl oneZ ?_)
      refine bodyPost_ret (results_cell_row2 rfl _ _ (w.heap.size + 1 + 1 + 1) 30 _ (0, 0) _ rfl (setRow_heap _ _ _ _ _ _ HW4.out.out) Tryd.underlying30 rfl sizeZ) rfl ?_
      exact idx_zero HR.out (by omega) HW4.out.below
    · obtain rfl : eb = 0 := Decidable.not_not.1 h2
      have hil := bndD_le a (show (0 : Nat) ≤ n by omega)
      have hkl := bndD_le b (Nat.le_refl n)
      obtain ⟨i, hi⟩ : ∃ i, bndD a n 0 = i := ⟨_, rfl⟩
      obtain ⟨k, hk⟩ : ∃ k, bndD b n n = k := ⟨_, rfl⟩
      rw [hi] at hil
      rw [hk] at hkl
      have HI := Lib.hid hi
      have HKK := Lib.hid hk
      obtain rfl : xa = (i : Int) := by
        have h := HXA.out
        rw [if_pos HEA.out, hi] at h
        exact h.symm
      obtain rfl : xb = (k : Int) := by
        have h := HXB.out
        rw [if_pos HEB.out, hk] at h
        exact h.symm
      obtain ⟨m, hm⟩ : ∃ m, m = max i k := ⟨_, rfl⟩
      have HM := Lib.hid hm
      have hml : m ≤ n := by omega
      have him : i ≤ m := by omega
      clear hi hk hm
      obtain ⟨z1, hz0s, hinfo⟩ := infoV
      obtain ⟨i0, hi, hz0, hz1, hz2⟩ := info_parts hinfo
      have HI0 := Lib.hid hi
      have HZ0 := Lib.hid hz0
      have HZ1 := Lib.hid hz1
      have HZ2 := Lib.hid hz2
      have HZS := Lib.hid hz0s
      clear hi hz0 hz1 hz2 hz0s hinfo
      go_wp2_with fail
      go_simp
      go_loopw [13, 14, 15] (fun o s t wr => ∃ (j : Nat) (xs : List Value), i ≤ j ∧ j ≤ m ∧ t = .int .i64 j ∧ Hid (s = .string (joinD (((L.map (·.text)).drop i).take (j - i)))) ∧ wr.ownsRow w4.heap.size 30 13 o (j - i) xs ∧ Hid (PartsAt w4 w4.heap.size N ((L.drop i).take (m - i)) (j - i) xs) ∧ Hid (Below w4.heap.size w4 wr)) (fun _ _ t _ => m - (intOf t).toNat)
      case atStart => exact ⟨i, [], Nat.le_refl _, him, rfl, Lib.hid (by rw [Nat.sub_self]; rfl), by rw [Nat.sub_self]; exact World.ownsRow_nil _ _ _ _, Lib.hid (fun j _ hj => absurd hj (by omega)), Lib.hid (Below.refl _ _)⟩
      case round =>
        obtain ⟨w5, rfl⟩ : ∃ w5, w5 = wr := ⟨wr, rfl⟩
        obtain ⟨j, xs, hij, hjm, rfl, HS, hown, HP, HB5⟩ := hrel
        have HO := Lib.hid hown
        obtain ⟨s0, hs0⟩ : ∃ s0, joinD (((L.map (·.text)).drop i).take (j - i)) = s0 := ⟨_, rfl⟩
        have HS0 := Lib.hid hs0
        have h14 := HS.out
        rw [hs0] at h14
        clear hown hs0 c0 HS
        subst h14
        by_cases hjk : j < k
        · have hjn : j < L.length := by have := HLN.out; omega
          have hjm2 : j < m := by have := HM.out; omega
          obtain ⟨b8, o8, rfl, hb8, hget⟩ := HVL4.out.get (by intro h; rw [h] at hjn; simp at hjn)
          obtain ⟨cs1, h1, h2⟩ := hget j hjn
          have HC1 := Lib.hid h1
          have HX1 := Lib.hid h2
          have hxi := Lib.hid (show (Tryd.prog.info? 30).map (·.size) = some cs1.length by rw [h2.len]; exact sizeV)
          have HN1 := Lib.hid h2.len
          have hlen1 := h2.len
          have hfz := fold_zip0 cs1 #[.int .i64 0, .bool false, .bool false, .string ⟨#[]⟩, .int .i64 0, .int .i64 0, .int .i64 0, .int .i64 0, .int .i64 0, .string ⟨#[]⟩, .slice none 0 0, .slice none 0 0, .slice none 0 0] h2.len.symm
          obtain ⟨_, _, _, _, _, _, hg⟩ := h2.has
          obtain ⟨tx, htx⟩ : ∃ tx, L[j].text = tx := ⟨_, rfl⟩
          have q19 := hg.text
          rw [htx] at q19
          have HTX := Lib.hid (show s0 ++ tx = joinD (((L.map (·.text)).drop i).take (j - i + 1)) by
            have h := joinD_snoc (L.map (·.text)) i (j - i) (by rw [List.length_map]; omega)
            rw [HS0.out] at h
            rw [← h, ← htx, List.getElem_map]
            simp only [show i + (j - i) = j by omega])
          have htz : tx.size ≤ N := by rw [← htx]; exact hg.own.2.2.2.2.2.2.2.1
          have hsz0 := joinD_part HVL4.out (by omega) HLN.out (by have := HNN.out; omega) i (j - i)
          rw [HS0.out] at hsz0
          have hsz : s0.size + tx.size ≤ 9223372036854775807 := by omega
          have hjn2 : (j : Int) < (n : Int) := by have := HLN.out; omega
          clear h1 h2 hget htx hg
          go_wp2_with (first
            | ((with_reducible show wpList _ _ _ (⟨some 80, _, _, _, _, _⟩ :: _) _ _); refine wpList_load_mid rfl 30 _ rfl b8 (o8 + j * 13) rfl cs1 _ (HC1.out.below HB5.out hb8).range Tryd.underlying30 rfl hxi.out ?_)
            | ((with_reducible show wpList _ _ _ (⟨some 82, _, _, _, _, _⟩ :: _) _ _); refine wpList_append_own _ rfl _ _ 27 rfl w4.heap.size 30 i0 (.agg z1) 13 168 Tryd.underlying27 HI0.out HZ0.out HZ1.out HZ2.out HZS.out (by decide) _ _ _ rfl (HO.out.alloc _) ⟨w5.heap.size, 0, none⟩ 1 1 cs1 rfl HN1.out ?c1 ?c2 ?c3 ?c4 ?c5 ?_))
          case c1 =>
            intro j u hj
            rw [addr_add', World.cell?_alloc_new]
            simpa using hj
          case c2 => exact HX1.out.oneCell
          case c3 => unfold maxLen; omega
          case c4 => omega
          case c5 => have := HB5.out.size; rw [World.size_alloc]; omega
          intro v6 w6 hown6 hgrow _
          have HO6 := Lib.hid hown6
          have HB6 := Lib.hid (grown_below HB5.out hgrow (fun q hq => (HO.out.lt q hq).1))
          have c19 : w6.cell? ⟨b8, o8 + j * 13 + 9, none⟩ = some (.string tx) := by
            have h := (HC1.out.below HB6.out hb8) 9 (by rw [HN1.out]; decide)
            rw [h, q19]
          clear hgrow hown6 hfz q19 hlen1
          go_wp2
          go_roundw
          case rel =>
            refine ⟨j + 1, xs ++ cs1, by omega, by omega, by go_num, Lib.hid ?_, ?_, Lib.hid ?_, HB6⟩
            · rw [HTX.out, show j + 1 - i = j - i + 1 by omega]
            · rw [show j + 1 - i = j - i + 1 by omega]; exact HO6.out
            · rw [show j + 1 - i = j - i + 1 by omega]
              refine HP.out.snoc HO.out.1 (by rw [List.length_take, List.length_drop]; omega) ?_
              rw [List.getElem_take, List.getElem_drop]
              simp only [show i + (j - i) = j by omega]
              exact HX1.out
          case measure => simp [intOf] <;> omega
        · obtain rfl : m = j := by have := HM.out; omega
          have HW5 := Lib.hid (HW4.out.later HB5.out)
          have c0 := HW5.out.one.get0 z0
          have HTE := Lib.hid (show s0 = joinD ((l.drop i).take (m - i)) by rw [← HS0.out, HTL.out])
          obtain ⟨hjv, hjs⟩ := join_valid HVS.out (i := i) (n := m - i) (by rw [HL.out]; have := HNN.out; omega)
          rw [HL.out] at hjv hjs
          have HJV := Lib.hid hjv
          have HJS := Lib.hid hjs
          have HR := Lib.hid (show slcD v a b = (textD s0, 0) by
            unfold slcD
            rw [if_neg (by have := HK.out; omega), if_neg (by have := HEA.out; omega), if_neg (by have := HEB.out; omega), if_neg (by have := HK.out; omega), if_pos HK.out, HL.out, HNN.out, HI.out, HKK.out, HTE.out, show k - i = m - i by have := HM.out; omega])
          clear hjv hjs
          go_wp2_with fail
          refine (text_ref s0 w5 w.heap.size N (by omega) (by rw [HTE.out]; have := HJS.out; omega) HW5.out.below.size).mono ?_
          rintro e w6 ⟨cs2, rfl, hsol, hb6⟩
          rw [resD_text (by rw [HTE.out]; exact HJV.out) (by rw [HTE.out]; have := HJS.out; omega)] at hsol ⊢
          have HW6 := Lib.hid (HW5.out.later hb6)
          have hlen := hsol.here.len
          have AT := Lib.hid hsol.here
          have S1 := Lib.hid hsol
          clear hsol hb6
          go_wp2_with ((with_reducible show wpList _ _ _ (⟨none, .store 30 (.tmp 6) _, _, _, _, _⟩ :: _) _ _); refine wpList_store_row rfl 30 _ _ rfl (w.heap.size + 1 + 1 + 1) cs2.toArray rfl rfl 30 zeroV HW6.out.out (row_size hlen) (row_zero hlen) (row_ones AT.out) ?_)
          refine bodyPost_ret (results_cell_row2 rfl _ _ (w.heap.size + 1 + 1 + 1) 30 _ (0, 0) _ rfl (setRow_heap _ _ _ _ _ _ HW6.out.out) Tryd.underlying30 rfl (row_size hlen)) rfl ?_
          rw [HR.out]
          exact ⟨cs2, rfl, S1.out _ (Apart.of_setRow0 cs2.toArray (by omega) (by have := HW5.out.size; omega)), below_setRow HW6.out.below (by omega) _⟩

set_option maxRecDepth 100000 in
set_option maxHeartbeats 6400000 in
theorem slice_ref6 (v a b : ValD) (w : World) (N : Nat) (cs ds es : List Value) (hN : N ≤ 16777216) (hda : VDec a.num) (hdb : VDec b.num) (hv : ValD.At w w.heap.size N v cs) (ha : ValD.At w w.heap.size N a ds) (hb : ValD.At w w.heap.size N b es) (hk : v.kind = 6) :
    Calls Tryd.prog 13 #[.agg cs.toArray, .agg ds.toArray, .agg es.toArray] w (IdxR N (slcD v a b) w) := by
  obtain ⟨ya, la, va, yc, lc, vc, hh⟩ := hv.has
  have hll : v.list.length ≤ N := hh.own.2.2.2.2.2.2.2.2.2.1
  have HH := Lib.hid hh
  have HV := Lib.hid hv
  have HA := Lib.hid ha
  have HB := Lib.hid hb
  have HDA := Lib.hid hda
  have HDB := Lib.hid hdb
  have hl2 := Lib.hid (show (Tryd.prog.info? 30).map (·.size) = some ds.length by rw [ha.len]; exact sizeV)
  have hl3 := Lib.hid (show (Tryd.prog.info? 30).map (·.size) = some es.length by rw [hb.len]; exact sizeV)
  clear hv ha hb hda hdb hh
  have HW := Lib.hid (four_boxes w cs ds es)
  have z0 := HH.out.kind
  have hA : ¬ (v.kind ≠ 0 ∧ v.kind ≠ 4 ∧ v.kind ≠ 6) := by omega
  have HE1 := Lib.hid (show bndE a ≠ 0 → slcD v a b = (zeroD, bndE a) from fun h => by unfold slcD; rw [if_neg hA, if_pos h])
  have HE2 := Lib.hid (show bndE a = 0 → bndE b ≠ 0 → slcD v a b = (zeroD, bndE b) from fun h1 h2 => by unfold slcD; rw [if_neg hA, if_neg (by omega), if_pos h2])
  have HK := Lib.hid hk
  rw [hk] at z0
  clear hA hk
  obtain ⟨n, hn⟩ : ∃ n : Nat, v.list.length = n := ⟨_, rfl⟩
  have q11 := HH.out.list
  rw [hn] at q11 hll
  have HNL := Lib.hid hn
  have hnN : n ≤ 4294967296 := by omega
  have HW2 := HW
  obtain ⟨L, hL⟩ : ∃ L, L = v.list := ⟨_, rfl⟩
  have HLE := Lib.hid hL
  have HLN := Lib.hid (show L.length = n by rw [hL]; exact hn)
  have HVL0 := Lib.hid (show ValsAt w w.heap.size N L la by rw [hL]; exact HH.out.atList)
  clear hn hL
  go_enter Tryd.func13, Tryd.ntmps13
  go_wp2_with ((with_reducible show wpList _ _ _ (⟨some 42, _, _, _, _, _⟩ :: _) _ _); refine wpList_load_mid rfl 30 _ rfl (w.heap.size + 1) 0 rfl ds _ HW2.out.two.range Tryd.underlying30 rfl hl2.out ?_)
  obtain ⟨xa, hxa⟩ : ∃ x, (if bndE a = 0 then (bndD a n 0 : Int) else 0) = x := ⟨_, rfl⟩
  obtain ⟨xb, hxb⟩ : ∃ x, (if bndE b = 0 then (bndD b n n : Int) else 0) = x := ⟨_, rfl⟩
  obtain ⟨ea, hea⟩ : ∃ e, bndE a = e := ⟨_, rfl⟩
  obtain ⟨eb, heb⟩ : ∃ e, bndE b = e := ⟨_, rfl⟩
  have HXA := Lib.hid hxa
  have HXB := Lib.hid hxb
  have HEA := Lib.hid hea
  have HEB := Lib.hid heb
  clear hxa hxb hea heb
  refine (bref_n a n 0 xa ea HXA.out HEA.out _ w.heap.size N ds hnN HDA.out (HA.out.below HW2.out.below)).mono ?_
  rintro e w3 ⟨rfl, hb3⟩
  have HW3 := Lib.hid (HW2.out.later hb3)
  clear hb3
  have c0 := HW3.out.one.get0 z0
  by_cases h1 : ea ≠ 0
  · have HR := Lib.hid (show slcD v a b = (zeroD, ea) by rw [HE1.out (by rw [HEA.out]; exact h1), HEA.out])
    have g1 : (ea == 0) = false := by simpa using h1
    have g2 : (ea != 0) = true := by simpa using h1
    clear h1
    go_wp2_with ((with_reducible show wpList _ _ _ (⟨none, .store 30 (.tmp 6) _, _, _, _, _⟩ :: _) _ _); refine wpList_store_row rfl 30 _ _ rfl (w.heap.size + 1 + 1 + 1) zeroV rfl rfl 30 zeroV HW3.out.out sizeZ rfl oneZ ?_)
    refine bodyPost_ret (results_cell_row2 rfl _ _ (w.heap.size + 1 + 1 + 1) 30 _ (0, 0) _ rfl (setRow_heap _ _ _ _ _ _ HW3.out.out) Tryd.underlying30 rfl sizeZ) rfl ?_
    exact idx_zero HR.out (by omega) HW3.out.below
  · obtain rfl : ea = 0 := Decidable.not_not.1 h1
    go_wp2_with ((with_reducible show wpList _ _ _ (⟨some 53, _, _, _, _, _⟩ :: _) _ _); refine wpList_load_mid rfl 30 _ rfl (w.heap.size + 1 + 1) 0 rfl es _ HW3.out.three.range Tryd.underlying30 rfl hl3.out ?_)
    refine (bref_n b n n xb eb HXB.out HEB.out _ w.heap.size N es hnN HDB.out (HB.out.below HW3.out.below)).mono ?_
    rintro e w4 ⟨rfl, hb4⟩
    have HW4 := Lib.hid (HW3.out.later hb4)
    have HVL4 := Lib.hid (HVL0.out.below HW4.out.below)
    clear hb4 c0
    have c0 := HW4.out.one.get0 z0
    by_cases h2 : eb ≠ 0
    · have HR := Lib.hid (show slcD v a b = (zeroD, eb) by rw [HE2.out HEA.out (by rw [HEB.out]; exact h2), HEB.out])
      have g1 : (eb == 0) = false := by simpa using h2
      have g2 : (eb != 0) = true := by simpa using h2
      clear h2
      go_wp2_with ((with_reducible show wpList _ _ _ (⟨none, .store 30 (.tmp 6) _, _, _, _, _⟩ :: _) _ _); refine wpList_store_row rfl 30 _ _ rfl (w.heap.size + 1 + 1 + 1) zeroV rfl rfl 30 zeroV HW4.out.out sizeZ rfl oneZ ?_)
      refine bodyPost_ret (results_cell_row2 rfl _ _ (w.heap.size + 1 + 1 + 1) 30 _ (0, 0) _ rfl (setRow_heap _ _ _ _ _ _ HW4.out.out) Tryd.underlying30 rfl sizeZ) rfl ?_
      exact idx_zero HR.out (by omega) HW4.out.below
    · obtain rfl : eb = 0 := Decidable.not_not.1 h2
      have hil := bndD_le a (show (0 : Nat) ≤ n by omega)
      have hkl := bndD_le b (Nat.le_refl n)
      obtain ⟨i, hi⟩ : ∃ i, bndD a n 0 = i := ⟨_, rfl⟩
      obtain ⟨k, hk⟩ : ∃ k, bndD b n n = k := ⟨_, rfl⟩
      rw [hi] at hil
      rw [hk] at hkl
      have HI := Lib.hid hi
      have HKK := Lib.hid hk
      obtain rfl : xa = (i : Int) := by
        have h := HXA.out
        rw [if_pos HEA.out, hi] at h
        exact h.symm
      obtain rfl : xb = (k : Int) := by
        have h := HXB.out
        rw [if_pos HEB.out, hk] at h
        exact h.symm
      obtain ⟨m, hm⟩ : ∃ m, m = max i k := ⟨_, rfl⟩
      have HM := Lib.hid hm
      have hml : m ≤ n := by omega
      have him : i ≤ m := by omega
      clear hi hk hm
      obtain ⟨z1, hz0s, hinfo⟩ := infoV
      obtain ⟨i0, hi, hz0, hz1, hz2⟩ := info_parts hinfo
      have HI0 := Lib.hid hi
      have HZ0 := Lib.hid hz0
      have HZ1 := Lib.hid hz1
      have HZ2 := Lib.hid hz2
      have HZS := Lib.hid hz0s
      clear hi hz0 hz1 hz2 hz0s hinfo
      go_wp2_with fail
      go_simp
      go_loopw [13, 14, 15] (fun o s t wr => ∃ (j : Nat) (xs : List Value), i ≤ j ∧ j ≤ m ∧ t = .int .i64 j ∧ Hid (s = .string (joinD (((L.map (·.text)).drop i).take (j - i)))) ∧ wr.ownsRow w4.heap.size 30 13 o (j - i) xs ∧ Hid (PartsAt w4 w.heap.size N ((L.drop i).take (m - i)) (j - i) xs) ∧ Hid (Below w4.heap.size w4 wr)) (fun _ _ t _ => m - (intOf t).toNat)
      case atStart => exact ⟨i, [], Nat.le_refl _, him, rfl, Lib.hid (by rw [Nat.sub_self]; rfl), by rw [Nat.sub_self]; exact World.ownsRow_nil _ _ _ _, Lib.hid (fun j _ hj => absurd hj (by omega)), Lib.hid (Below.refl _ _)⟩
      case round =>
        obtain ⟨w5, rfl⟩ : ∃ w5, w5 = wr := ⟨wr, rfl⟩
        obtain ⟨j, xs, hij, hjm, rfl, HS, hown, HP, HB5⟩ := hrel
        have HO := Lib.hid hown
        obtain ⟨s0, hs0⟩ : ∃ s0, joinD (((L.map (·.text)).drop i).take (j - i)) = s0 := ⟨_, rfl⟩
        have HS0 := Lib.hid hs0
        have h14 := HS.out
        rw [hs0] at h14
        clear hown hs0 c0 HS
        subst h14
        by_cases hjk : j < k
        · have hjn : j < L.length := by have := HLN.out; omega
          have hjm2 : j < m := by have := HM.out; omega
          obtain ⟨b8, o8, rfl, hb8', hget⟩ := HVL4.out.get (by intro h; rw [h] at hjn; simp at hjn)
          have hb8 : b8 < w4.heap.size := by have := HW4.out.size; omega
          clear hb8'
          obtain ⟨cs1, h1, h2⟩ := hget j hjn
          have HC1 := Lib.hid h1
          have HX1 := Lib.hid h2
          have hxi := Lib.hid (show (Tryd.prog.info? 30).map (·.size) = some cs1.length by rw [h2.len]; exact sizeV)
          have HN1 := Lib.hid h2.len
          have hlen1 := h2.len
          have hfz := fold_zip0 cs1 #[.int .i64 0, .bool false, .bool false, .string ⟨#[]⟩, .int .i64 0, .int .i64 0, .int .i64 0, .int .i64 0, .int .i64 0, .string ⟨#[]⟩, .slice none 0 0, .slice none 0 0, .slice none 0 0] h2.len.symm
          obtain ⟨_, _, _, _, _, _, hg⟩ := h2.has
          obtain ⟨tx, htx⟩ : ∃ tx, L[j].text = tx := ⟨_, rfl⟩
          have q19 := hg.text
          rw [htx] at q19
          have HTX := Lib.hid (show s0 ++ tx = joinD (((L.map (·.text)).drop i).take (j - i + 1)) by
            have h := joinD_snoc (L.map (·.text)) i (j - i) (by rw [List.length_map]; omega)
            rw [HS0.out] at h
            rw [← h, ← htx, List.getElem_map]
            simp only [show i + (j - i) = j by omega])
          have htz : tx.size ≤ N := by rw [← htx]; exact hg.own.2.2.2.2.2.2.2.1
          have hsz0 := joinD_part HVL4.out (by omega) HLN.out (by omega) i (j - i)
          rw [HS0.out] at hsz0
          have hsz : s0.size + tx.size ≤ 9223372036854775807 := by omega
          have hjn2 : (j : Int) < (n : Int) := by have := HLN.out; omega
          clear h1 h2 hget htx hg
          go_wp2_with (first
            | ((with_reducible show wpList _ _ _ (⟨some 80, _, _, _, _, _⟩ :: _) _ _); refine wpList_load_mid rfl 30 _ rfl b8 (o8 + j * 13) rfl cs1 _ (HC1.out.below HB5.out hb8).range Tryd.underlying30 rfl hxi.out ?_)
            | ((with_reducible show wpList _ _ _ (⟨some 82, _, _, _, _, _⟩ :: _) _ _); refine wpList_append_own _ rfl _ _ 27 rfl w4.heap.size 30 i0 (.agg z1) 13 168 Tryd.underlying27 HI0.out HZ0.out HZ1.out HZ2.out HZS.out (by decide) _ _ _ rfl (HO.out.alloc _) ⟨w5.heap.size, 0, none⟩ 1 1 cs1 rfl HN1.out ?c1 ?c2 ?c3 ?c4 ?c5 ?_))
          case c1 =>
            intro j u hj
            rw [addr_add', World.cell?_alloc_new]
            simpa using hj
          case c2 => exact HX1.out.oneCell
          case c3 => unfold maxLen; omega
          case c4 => omega
          case c5 => have := HB5.out.size; rw [World.size_alloc]; omega
          intro v6 w6 hown6 hgrow _
          have HO6 := Lib.hid hown6
          have HB6 := Lib.hid (grown_below HB5.out hgrow (fun q hq => (HO.out.lt q hq).1))
          have c19 : w6.cell? ⟨b8, o8 + j * 13 + 9, none⟩ = some (.string tx) := by
            have h := (HC1.out.below HB6.out hb8) 9 (by rw [HN1.out]; decide)
            rw [h, q19]
          clear hgrow hown6 hfz q19 hlen1
          go_wp2
          go_roundw
          case rel =>
            refine ⟨j + 1, xs ++ cs1, by omega, by omega, by go_num, Lib.hid ?_, ?_, Lib.hid ?_, HB6⟩
            · rw [HTX.out, show j + 1 - i = j - i + 1 by omega]
            · rw [show j + 1 - i = j - i + 1 by omega]; exact HO6.out
            · rw [show j + 1 - i = j - i + 1 by omega]
              refine HP.out.snoc HO.out.1 (by rw [List.length_take, List.length_drop]; omega) ?_
              rw [List.getElem_take, List.getElem_drop]
              simp only [show i + (j - i) = j by omega]
              exact HX1.out
          case measure => simp [intOf] <;> omega
        · obtain rfl : m = j := by have := HM.out; omega
          have HW5 := Lib.hid (HW4.out.later HB5.out)
          have c0 := HW5.out.one.get0 z0
          have HLQ := Lib.hid (show ((L.drop i).take (m - i)).length = m - i by rw [List.length_take, List.length_drop]; have := HLN.out; omega)
          obtain ⟨a9, c9, rfl, hv9⟩ := valsAt_own (l := (L.drop i).take (m - i)) HO.out HLQ.out (Nat.le_refl _) (fun q hq => ((HP.out q hq (by rw [HLQ.out] at hq; exact hq)).below (HB5.out.mono HW4.out.below.size)).mono HW5.out.below.size)
          have HV9 := Lib.hid hv9
          have HR := Lib.hid (show slcD v a b = resD (lisD ((L.drop i).take (m - i))) by
            unfold slcD
            rw [if_neg (by have := HK.out; omega), if_neg (by have := HEA.out; omega), if_neg (by have := HEB.out; omega), if_neg (by have := HK.out; omega), if_neg (by have := HK.out; omega), HNL.out, HI.out, HKK.out, HLE.out, show k - i = m - i by have := HM.out; omega])
          rw [HLQ.out] at HO ⊢
          clear hv9
          go_wp2_with fail
          refine (list_rex ((L.drop i).take (m - i)) (m - i) HLQ.out a9 c9 w5 w5.heap.size N (by omega) (by omega) (Nat.le_refl _) HV9.out).mono ?_
          rintro e w6 ⟨hor, hb6⟩
          have HW6 := Lib.hid (HW5.out.later hb6)
          have HB6 := Lib.hid hb6
          have hlen : (lisR ((L.drop i).take (m - i)) a9 c9).length = 13 := rfl
          have hon := Lib.hid (row_ones (lisD_at (w := w5) (B := w5.heap.size) (N := N) c9 (by rw [HLQ.out]; omega) HV9.out))
          clear hb6
          rcases hor with ⟨hk, rfl⟩ | ⟨hk, rfl⟩
          · have HK6 := Lib.hid hk
            clear hk
            go_wp2_with ((with_reducible show wpList _ _ _ (⟨none, .store 30 (.tmp 6) _, _, _, _, _⟩ :: _) _ _); refine wpList_store_row rfl 30 _ _ rfl (w.heap.size + 1 + 1 + 1) (lisR ((L.drop i).take (m - i)) a9 c9).toArray rfl rfl 30 zeroV HW6.out.out (row_size hlen) (row_zero hlen) hon.out ?_)
            refine bodyPost_ret (results_cell_row2 rfl _ _ (w.heap.size + 1 + 1 + 1) 30 _ (0, 0) _ rfl (setRow_heap _ _ _ _ _ _ HW6.out.out) Tryd.underlying30 rfl (row_size hlen)) rfl ?_
            rw [HR.out, show resD (lisD ((L.drop i).take (m - i))) = (lisD ((L.drop i).take (m - i)), 0) by unfold resD; rw [if_pos HK6.out]]
            have hbf := below_setRow HW6.out.below (show w.heap.size ≤ w.heap.size + 1 + 1 + 1 by omega) (lisR ((L.drop i).take (m - i)) a9 c9).toArray
            have hb46 := (HB5.out.trans (HB6.out.mono HB5.out.size))
            have ho9 : (w6.setRow (w.heap.size + 1 + 1 + 1) (lisR ((L.drop i).take (m - i)) a9 c9).toArray).ownsRow w4.heap.size 30 13 (.slice a9 (m - i) c9) (m - i) xs := own_same HO.out (fun q h1 h2 => by
              rw [setRow_other _ _ _ _ (by have := HW4.out.size; omega)]
              exact HB6.out.block q h2)
            have hb4f : Below w.heap.size w4 (w6.setRow (w.heap.size + 1 + 1 + 1) (lisR ((L.drop i).take (m - i)) a9 c9).toArray) := below_setRow (hb46.mono HW4.out.below.size) (by omega) _
            obtain ⟨a10, c10, he, hv10⟩ := valsAt_own (l := (L.drop i).take (m - i)) ho9 HLQ.out (Nat.le_refl _) (fun q hq => ((HP.out q hq (by rw [HLQ.out] at hq; exact hq)).below hb4f).mono hbf.size)
            injection he with he1 _ _
            subst he1
            exact ⟨_, rfl, lisD_at c9 (by rw [HLQ.out]; omega) hv10, hbf⟩
          · obtain ⟨k6, hkk⟩ : ∃ k6, chkD (lisD ((L.drop i).take (m - i))) = k6 := ⟨_, rfl⟩
            have HR6 := Lib.hid (show slcD v a b = (zeroD, k6) by rw [HR.out]; unfold resD; rw [if_neg hk, hkk])
            rw [hkk]
            clear hk hkk
            go_wp2_with ((with_reducible show wpList _ _ _ (⟨none, .store 30 (.tmp 6) _, _, _, _, _⟩ :: _) _ _); refine wpList_store_row rfl 30 _ _ rfl (w.heap.size + 1 + 1 + 1) zeroV rfl rfl 30 zeroV HW6.out.out sizeZ rfl oneZ ?_)
            refine bodyPost_ret (results_cell_row2 rfl _ _ (w.heap.size + 1 + 1 + 1) 30 _ (0, 0) _ rfl (setRow_heap _ _ _ _ _ _ HW6.out.out) Tryd.underlying30 rfl sizeZ) rfl ?_
            exact idx_zero HR6.out (by omega) HW6.out.below

end Go.Proofs.YtmbldgcbnkhabaaDoor
