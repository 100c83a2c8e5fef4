/- Both Free: the program's and the reference's return the same sorted list of strings. -/
import Derived.Test.YtfegnmbdgdjkgaaGreatVis38
import Derived.Test.YtfegnmbdgdjkgaaGreatRfr38
import Derived.Test.YtfegnmbdgdjkgaaGreatShls
import Derived.Maps.RangeWalk
import Derived.Sort.KeysCollected
import Derived.Sort.OwnSorted
namespace Go.Proofs.YtfegnmbdgdjkgaaGreat
open Go.RowKit Go.Maps Go.Sort

def FreR (R : List ByteArray) (w : World) (e : Ending) (w' : World) : Prop := ∃ a c, e = .returned (.slice a R.length c) ∧ NmsAt w' 0 w'.heap.size R a ∧ Below w.heap.size w w'
set_option maxRecDepth 100000 in
theorem freer_r (x : ExprD) (w : World) (B N : Nat) (cs : List Value) (hN : N ≤ 1048576) (hB : B ≤ w.heap.size) (hq : gdE 47 x) (hnd : ndE 47 x ≤ 4096) (hx : ExprD.At w B N x cs) :
    Calls Tryz.prog 8 #[.agg cs.toArray] w (FreR (insAll [] (frE 47 x [])) w) := by
  have HX := Lib.hid hx
  have HQ := Lib.hid hq
  have R0 := Lib.hid (box_at w cs 34)
  have H0 := Lib.hid (belowBox w (.cells cs.toArray 34))
  have hl := Lib.hid (show (Tryz.prog.info? 34).map (·.size) = some cs.length by rw [hx.len]; exact sizeE)
  clear hx hq
  go_enter Tryz.func8, Tryz.ntmps8
  go_wp2_with (refine wpList_load_mid rfl 34 _ rfl w.heap.size 0 rfl cs _ R0.out.range Tryz.underlying34 rfl hl.out ?_)
  refine (free_all 47 x HQ.out _ B N cs ⟨[], [], []⟩ [.slice none 0 0, .slice none 0 0, .slice none 0 0] [] none 0 0 hN (by omega) (by simpa using Nat.le_trans hnd (by omega)) (Nat.le_trans hB H0.out.size) (Nat.le_refl _) (Nat.zero_le _) (.inl rfl) (fun _ => ⟨rfl, rfl⟩) (ScD.At.nil _ _ _ _) (HX.out.below (H0.out.mono hB))).mono ?_
  rintro e w1 ⟨a, c, rfl, _, _, hn, _, hb⟩
  have HN := Lib.hid hn
  have HB := Lib.hid (belowThen H0.out hb)
  clear hn hb
  go_wp2_with fail
  go_ret
  exact ⟨a, c, rfl, HN.out, HB.out⟩
/-- What the map has, sorted, is what the sorted list has. -/
theorem keys_same {L : List ByteArray} {ss : List (List UInt8)} (hn : ss.Nodup) (hm : ∀ y, y ∈ ss ↔ y ∈ L.map (·.data.toList)) : (insAll [] L).map (·.data.toList) = ss.mergeSort (fun x y => decide (x ≤ y)) := by
  refine sorted_same (insAll_sorted L [] (by simp)) ?_ ((List.mergeSort_perm ss _).nodup_iff.2 hn) (fun y => ?_)
  · have h := List.pairwise_mergeSort (le := fun x y : List UInt8 => decide (x ≤ y)) (fun a b c h1 h2 => by simp at *; exact List.le_trans h1 h2) (fun a b => by simp; exact List.le_total a b) ss
    exact h.imp fun {a b} h => by simpa using h
  · rw [(List.mergeSort_perm ss _).mem_iff, hm, insAll_mem]
    simp
theorem enc_back (l : List ByteArray) : (l.map (·.data.toList)).map encStr = l.map Value.string := by
  rw [List.map_map]
  exact List.map_congr_left fun x _ => rfl
set_option maxRecDepth 100000 in
set_option maxHeartbeats 3200000 in
theorem freep_p (x : ExprD) (w : World) (N : Nat) (cs : List Value) (hN : N ≤ 1048576) (hq : gdE 47 x) (hnd : ndE 47 x ≤ 4096) (hM : MaxC w) (hx : ExprD.At w w.heap.size N x cs) :
    Calls Tryz.prog 7 #[.agg cs.toArray] w (FreR (insAll [] (frE 47 x [])) w) := by
  obtain ⟨i0, hi, hz0, hz1, hz2⟩ := info_parts infoSt
  have HI := Lib.hid hi
  have HZ0 := Lib.hid hz0
  have HZ1 := Lib.hid hz1
  have HZ2 := Lib.hid hz2
  obtain ⟨L, hL⟩ : ∃ L, L = frE 47 x [] := ⟨_, rfl⟩
  rw [← hL]
  obtain ⟨R, hR⟩ : ∃ R, R = insAll [] L := ⟨_, rfl⟩
  rw [← hR]
  have HRR := Lib.hid hR
  have HLE := Lib.hid (show L.length ≤ 4096 by rw [hL]; exact Nat.le_trans (frE_len 47 x []) hnd)
  have HX := Lib.hid hx
  have HQ := Lib.hid hq
  have HM := Lib.hid hM
  have R0 := Lib.hid (box_at w cs 34)
  have H0 := Lib.hid (belowBox w (.cells cs.toArray 34))
  have hl := Lib.hid (show (Tryz.prog.info? 34).map (·.size) = some cs.length by rw [hx.len]; exact sizeE)
  have s1 : (w.alloc (.cells cs.toArray 34)).heap.size = w.heap.size + 1 := World.size_alloc _ _
  have H2 := Lib.hid (show Below (w.heap.size + 1) (w.alloc (.cells cs.toArray 34)) ((w.alloc (.cells cs.toArray 34)).alloc (.map #[] 0)) by have := belowBox (w.alloc (.cells cs.toArray 34)) (.map #[] 0); rwa [s1] at this)
  have S2 := Lib.hid (show SetH ((w.alloc (.cells cs.toArray 34)).alloc (.map #[] 0)) (w.heap.size + 1) [] by have := SetH.made (w.alloc (.cells cs.toArray 34)); rwa [s1] at this)
  have s2 : ((w.alloc (.cells cs.toArray 34)).alloc (.map #[] 0)).heap.size = w.heap.size + 1 + 1 := by rw [World.size_alloc, s1]
  obtain ⟨w2, hw2⟩ : ∃ w2, w2 = (w.alloc (.cells cs.toArray 34)).alloc (.map #[] 0) := ⟨_, rfl⟩
  rw [← hw2] at H2 S2 s2
  have S3 := Lib.hid (show SetH (w2.alloc (.cells #[.map (some (w.heap.size + 1))] 44)) (w.heap.size + 1) [] from S2.out.later (belowBox w2 _))
  have s3 : (w2.alloc (.cells #[.map (some (w.heap.size + 1))] 44)).heap.size = w.heap.size + 1 + 1 + 1 := by rw [World.size_alloc, s2]
  have c3 : (w2.alloc (.cells #[.map (some (w.heap.size + 1))] 44)).cell? ⟨w.heap.size + 1 + 1, 0, none⟩ = some (.map (some (w.heap.size + 1))) := by
    have := (box_at w2 [.map (some (w.heap.size + 1))] 44).get0 (j := 0) (v := .map (some (w.heap.size + 1))) rfl
    rwa [s2] at this
  have HB3 := Lib.hid (belowBox w2 (.cells #[.map (some (w.heap.size + 1))] 44))
  obtain ⟨w3, hw3⟩ : ∃ w3, w3 = w2.alloc (.cells #[.map (some (w.heap.size + 1))] 44) := ⟨_, rfl⟩
  rw [← hw3] at S3 s3 c3 HB3
  have HB4 := Lib.hid (belowBox w3 (.cells (wlkC (w.heap.size + 1 + 1)).toArray 48))
  have s4 : (w3.alloc (.cells (wlkC (w.heap.size + 1 + 1)).toArray 48)).heap.size = w.heap.size + 1 + 1 + 1 + 1 := by rw [World.size_alloc, s3]
  have R4 := Lib.hid (show CellsAt (w3.alloc (.cells (wlkC (w.heap.size + 1 + 1)).toArray 48)) (w.heap.size + 1 + 1 + 1) 0 (wlkC (w.heap.size + 1 + 1)) by have := box_at w3 (wlkC (w.heap.size + 1 + 1)) 48; rwa [s3] at this)
  obtain ⟨w4, hw4⟩ : ∃ w4, w4 = w3.alloc (.cells (wlkC (w.heap.size + 1 + 1)).toArray 48) := ⟨_, rfl⟩
  rw [← hw4] at s4 HB4 R4
  have S4 := Lib.hid (S3.out.later HB4.out)
  have c4 := Lib.hid ((HB4.out.cell (by show w.heap.size + 1 + 1 < _; omega)).trans c3)
  have HB1 := Lib.hid (show Below w.heap.size w w4 from (H0.out.trans (H2.out.mono (by omega))).trans ((HB3.out.mono (by omega)).trans (HB4.out.mono (by omega))))
  have HBR := Lib.hid (show Below (w.heap.size + 1) (w.alloc (.cells cs.toArray 34)) w4 from H2.out.trans ((HB3.out.mono (by omega)).trans (HB4.out.mono (by omega))))
  have HW3 := Lib.hid (show w3 = ((w.alloc (.cells cs.toArray 34)).alloc (.map #[] 0)).alloc (.cells #[.map (some (w.heap.size + 1))] 44) by rw [hw3, hw2])
  have HW4 := Lib.hid hw4
  have HS3 := Lib.hid s3
  have S5 := Lib.hid s4
  have RE := Lib.hid (R0.out.below HBR.out (by omega))
  have hsw := Lib.hid (show (Tryz.prog.info? 48).map (·.size) = some (wlkC (w.heap.size + 1 + 1)).length by kernel_rfl)
  have hsw2 := Lib.hid (show (Tryz.prog.info? 48).map (·.size) = some (wlkC (w.heap.size + 1 + 1)).toArray.size by kernel_rfl)
  have hone := Lib.hid (show (wlkC (w.heap.size + 1 + 1)).toArray.all (·.oneCell') = true from Go.all_oneCell_toArray (by intro u hu; simp [wlkC] at hu; rcases hu with rfl | rfl <;> rfl))
  have h2 := Lib.hid (show 2 = (wlkC (w.heap.size + 1 + 1)).toArray.size by rfl)
  obtain ⟨mm, hmm0⟩ := HM.out
  have HG := Lib.hid (show 0 < w.heap.size from World.block_lt_of_cell? w _ hmm0)
  clear hx hq hM hw2 hw3 hw4 s1 s2 s3 s4 c3 hi hz0 hz1 hz2 hmm0 hR
  have hmm := @run_makeMap Tryz.prog
  go_enter Tryz.func7, Tryz.ntmps7
  go_wp2_with (first
    | (refine wpList_load_mid rfl 34 _ rfl w.heap.size 0 rfl cs _ RE.out.range Tryz.underlying34 rfl hl.out ?_)
    | (refine wpList_load_mid rfl 48 _ rfl (w.heap.size + 1 + 1 + 1) 0 rfl (wlkC (w.heap.size + 1 + 1)) _ R4.out.range Tryz.underlying48 rfl hsw.out ?_)
    | ((with_reducible show wpList _ _ _ (⟨none, .store 48 _ _, _, _, _, _⟩ :: _) _ _); rw [← HW3.out]; refine wpList_store_new rfl 48 _ _ rfl _ (wlkC (w.heap.size + 1 + 1)).toArray (by rw [HS3.out]; rfl) rfl hsw2.out h2.out hone.out ?_; rw [← HW4.out]))
  refine (wlk_all (w.heap.size + 1 + 1) (w.heap.size + 1) 47 x HQ.out w4 (w.heap.size + 1 + 1) w4.heap.size w.heap.size N 0 cs ⟨[], [], []⟩ [.slice none 0 0, .slice none 0 0, .slice none 0 0] [] hN (by omega) (by simpa using Nat.le_trans hnd (by omega)) (Nat.le_refl _) (Nat.le_succ _) (Nat.lt_succ_of_lt HG.out) (Nat.lt_succ_self _) (by rw [S5.out]; omega) (by omega) (HM.out.then HB1.out) c4.out S4.out (ScD.At.nil _ _ _ _) (HX.out.below HB1.out)).mono ?_
  rintro e w5 ⟨rs, rfl, hl5, ho5, hs5, hf5⟩
  have hs5' : SetH w5 (w.heap.size + 1) L := by rw [hL]; exact hs5
  obtain ⟨D, hown, hmap, hhas⟩ := hs5'
  have HO := Lib.hid hown
  have HH := Lib.hid hhas
  have hsz4 := S5.out
  have HB5 := Lib.hid (show Below w.heap.size w w5 from HB1.out.trans ⟨hf5.os, hf5.tape, hf5.output, hf5.size, fun k hk => hf5.block k (by omega) (by omega)⟩)
  have c5 := (hf5.cell (o := 0) (b := w.heap.size + 1 + 1) (by omega) (by omega)).trans c4.out
  have HS5 := Lib.hid (show w.heap.size + 1 + 1 < w5.heap.size from Nat.lt_of_lt_of_le (by omega) hf5.size)
  clear hs5 hf5 hl5 ho5 hown hhas hsz4
  go_wp2_with (first
    | (at_range; refine wpList_range_own _ rfl _ 44 rfl 9 4 (string_keyed Tryz.underlying9) Tryz.underlying44 _ (w.heap.size + 1) L.length D rfl HO.out ?_; intro w6 hrg6 hg6 hs6))
  go_frame
  have HRG6 := Lib.hid hrg6
  have HG6 := Lib.hid hg6
  have HMS := Lib.hid (show Maps.size D ≤ 4096 from Nat.le_trans HO.out.size_le HLE.out)
  clear hrg6 hg6 hs6 hmap c5 hL
  go_loopw [5] (fun v wr => ∃ (left : Lit → Bool) (cnt : Nat) (ss : List (List UInt8)), Hid (wr.ranges Tryz.prog 9 (plainElem Tryz.prog 4) (w.heap.size + 1) w5.heap.size L.length D left cnt) ∧ Hid (ss.length + cnt ≤ Maps.size D) ∧
      Hid (wr.ownsRow w5.heap.size 9 1 v ss.length (ss.map encStr)) ∧ Hid (Collected D left ss) ∧ Hid (Below w5.heap.size w5 wr))
    (fun _ wr => wr.rangeLeft (w.heap.size + 1) w5.heap.size)
  case atStart =>
    exact ⟨_, _, [], HRG6, Lib.hid (by simp), Lib.hid (World.ownsRow_nil _ _ _ _), Lib.hid (Collected.start D), Lib.hid ((Below.refl _ _).grown HG6.out (Nat.le_refl _) (fun j hj => by cases hj))⟩
  case round =>
    obtain ⟨left, cnt, ss, HRG, HCS, HROW, HC, HNX⟩ := hrel
    go_wp2_with (first
      | (at_next; refine wpList_next_ranges _ rfl _ rfl 9 (string_keyed Tryz.underlying9) (plainElem Tryz.prog 4) encStr (fun v : Value => v) (fun key kl hk => by obtain ⟨x, hx, _⟩ := Maps.keyOf_str Tryz.underlying9 hk; exact ⟨x, hx⟩) (fun v y hv => ⟨v, rfl⟩) (w.heap.size + 1) w5.heap.size L.length _ _ _ rfl HRG.out ?_ ?_))
    · intro hc0 hl0
      have hks := keys_same (L := L) HC.out.1 (fun y => by rw [HC.out.2 y, hl0, HH.out]; simp)
      rw [← HRR.out] at hks
      have hlen : R.length = ss.length := by
        have := congrArg List.length hks
        rwa [List.length_map, List.length_mergeSort] at this
      have HKS := Lib.hid hks
      have HLEN := Lib.hid hlen
      clear hks hlen hl0 hc0
      rcases HROW.out.2 with ⟨rfl, hz⟩ | ⟨g, cap, cur, rfl, hbase, hb, h1, h2, h3, h4⟩
      · have HR0 := Lib.hid (show R = [] from List.length_eq_zero_iff.1 (HLEN.out.trans hz))
        clear hz
        go_wp2_with fail
        refine (Tryz.slices_Sort_string_none none 0 _).mono ?_
        rintro e w7 ⟨rfl, rfl⟩
        go_wp2_with fail
        go_ret
        exact ⟨none, 0, by rw [HR0.out]; rfl, .inl HR0.out, HB5.out.trans (HNX.out.mono HB5.out.size)⟩
      · have HHO := Lib.hid (show Holds encStr wr g 0 ss.toArray from holds_of_block hb (by simpa using h4))
        have HGL := Lib.hid (Array.getElem?_eq_some_iff.1 hb).1
        have HOW := fun n os => ownsRow_sorted (n := n) (os := os) (ts := ss.mergeSort fun x y => decide (x ≤ y)) (by simp) hbase hb h1 h2 h3
        have HOW := Lib.hid HOW
        have HBS := Lib.hid hbase
        clear hb h1 h2 h3 h4 hbase
        go_wp2_with fail
        refine (Tryz.slices_Sort_string g 0 cap ss wr HHO.out HGL.out (by have := HCS.out; have := HMS.out; omega)).mono ?_
        rintro e w7 ⟨rfl, nn, os, rfl⟩
        go_wp2_with fail
        go_ret
        have ho := HOW.out nn os
        have hmv : (ss.mergeSort fun x y => decide (x ≤ y)).map encStr = R.map Value.string := by rw [← HKS.out, enc_back]
        rw [hmv, ← HLEN.out] at ho
        obtain ⟨a, c, hv, _, _, hn⟩ := nms_own ho (Nat.zero_le _)
        cases hv
        exact ⟨some ⟨g, 0, none⟩, cap, by rw [HLEN.out]; rfl, hn, HB5.out.trans ((HNX.out.grown (grownBy_sorted _) HNX.out.size (fun j hj => by cases hj; exact HBS.out)).mono HB5.out.size)⟩
    · intro x c kl yd yp w2 cnt2 hkey hlk hv hat hrg2 hlt hg2 hs2 hen
      obtain ⟨x', ex, rfl, _⟩ := Maps.keyOf_str Tryz.underlying9 hkey
      obtain rfl : x = x' := encStr_inj ex
      have HR2 := Lib.hid (HROW.out.kept hg2 (Or.inr (row_ne_iter HROW.out HRG.out).symm))
      have HC2 := Lib.hid (HC.out.step hlk hat)
      have HRG2 := Lib.hid hrg2
      have HG2 := Lib.hid hg2
      have HLT := Lib.hid hlt
      have HN2 := Lib.hid (HNX.out.grown hg2 HNX.out.size (fun j hj => by cases hj; exact Nat.le_refl _))
      clear hs2 hkey hlk hv hat hrg2 hlt hg2 ex
      go_wp2_with (first
        | (at_builtin; refine wpList_append_own _ rfl _ _ 38 rfl w5.heap.size 9 i0 (.string ⟨#[]⟩) 1 16 Tryz.underlying38 HI.out HZ0.out HZ1.out HZ2.out rfl (by decide) _ _ _ rfl (HR2.out.alloc _) ⟨w2.heap.size, 0, none⟩ 1 1 [encStr x] rfl rfl (cell_one_new _ _ _) (by simp [Value.oneCell', encStr]) (by have := HCS.out; have := HMS.out; have := HLT.out; unfold maxLen; omega) (by have := HCS.out; have := HMS.out; have := HLT.out; omega) (by have := HN2.out.size; rw [World.size_alloc]; omega) ?_; intro v' w3 hown' hg3 hnil3; go_frame))
      have hrg3 := (HRG2.out.alloc _).kept hg3 (row_ne_low HR2.out (by have := HS5.out; omega)) (row_ne_iter HR2.out HRG2.out)
      go_roundw
      case rel =>
        refine ⟨_, cnt2, ss ++ [x], Lib.hid hrg3, Lib.hid (by have := HCS.out; have := HLT.out; simp; omega), Lib.hid (by simpa using hown'), HC2, Lib.hid ?_⟩
        exact (HN2.out.alloc HN2.out.size _).grown hg3 (by have := HN2.out.size; rw [World.size_alloc]; omega) (fun j hj => (HR2.out.lt j hj).1)
      case measure => rw [hrg3.left_eq, HRG.out.left_eq]; exact HLT.out
end Go.Proofs.YtfegnmbdgdjkgaaGreat
