/- The reference's validity of values, on: one value, the values in it, all of it. -/
import Derived.Test.YtnoddigkafldfaaDoorVal07b
namespace Go.Proofs.YtnoddigkafldfaaDoor
open Go.RowKit

set_option maxRecDepth 100000 in
set_option maxHeartbeats 3200000 in
theorem one_any (v : ValD) (w : World) (B N : Nat) (cs : List Value) (hN : N ≤ 4294967296) (hB : B ≤ w.heap.size) (hv : ValD.At w B N v cs) : Calls Tryd.prog 38 #[.agg cs.toArray] w (SomeInt w) := by
  obtain ⟨ya, la, va, yc, lc, vc, hh⟩ := hv.has
  have HV := Lib.hid hv
  have hds : v.num.digits.size ≤ N := hh.own.2.2.2.2.2.2.1
  have hts : v.text.size ≤ N := hh.own.2.2.2.2.2.2.2.1
  have hfs : v.fields.length ≤ N := hh.own.2.2.2.2.2.2.2.2.2.2
  have HH := Lib.hid hh
  have hl := Lib.hid (show (Tryd.prog.info? 38).map (·.size) = some cs.length by rw [hv.len]; exact sizeV)
  have HR := Lib.hid (box_at w cs 38)
  have H0 := Lib.hid (show Below w.heap.size w (w.alloc (.cells cs.toArray 38)) from belowBox w _)
  clear hh hv
  go_enter Tryd.func38, Tryd.ntmps38
  go_wp2_with (refine wpList_load_mid rfl 38 _ rfl w.heap.size 0 rfl cs _ (box_at w cs 38).range Tryd.underlying38 rfl hl.out ?_)
  refine (own_any v _ B N cs (HV.out.below (H0.out.mono hB))).mono ?_
  rintro e w1 ⟨b1, rfl, hb1⟩
  have hs0 : w.heap.size < (w.alloc (.cells cs.toArray 38)).heap.size := by rw [World.size_alloc]; omega
  have R1 := Lib.hid (HR.out.then hb1 hs0)
  have H1 := Lib.hid (belowThen H0.out hb1)
  have hs1 : w.heap.size < w1.heap.size := Nat.lt_of_lt_of_le hs0 hb1.size
  clear hb1 HR H0 hs0
  cases b1
  · go_wp2_with fail
    go_ret
    exact ⟨_, rfl, H1.out⟩
  have d2 := R1.out.get0 HH.out.neg
  have d3 := R1.out.get0 HH.out.digits
  have d4 := R1.out.get0 HH.out.exp
  go_wp2_with fail
  refine (valid02_any v.num _ (by unfold maxLen; omega)).mono ?_
  rintro e w2 ⟨b2, rfl, hb2⟩
  have R2 := Lib.hid (R1.out.then hb2 hs1)
  have H2 := Lib.hid (belowThen H1.out hb2)
  have hs2 : w.heap.size < w2.heap.size := Nat.lt_of_lt_of_le hs1 hb2.size
  clear hb2 R1 H1 hs1 d2 d3 d4
  cases b2
  · go_wp2_with fail
    go_ret
    exact ⟨_, rfl, H2.out⟩
  have d0 := R2.out.get0 HH.out.kind
  have d5 := R2.out.get0 HH.out.tkind
  have d6 := R2.out.get0 HH.out.day
  have d7 := R2.out.get0 HH.out.nano
  have d8 := R2.out.get0 HH.out.offset
  have d9 := R2.out.get0 HH.out.text
  have d10 := R2.out.get0 HH.out.bytes
  have d12 := R2.out.get0 HH.out.fields
  -- what stands behind the test of the time
  have rest : ∀ w3 : World, Below w2.heap.size w2 w3 → w.heap.size < w3.heap.size ∧ Below w.heap.size w w3 ∧ w3.cell? ⟨w.heap.size, 9, none⟩ = some (.string v.text) ∧ w3.cell? ⟨w.heap.size, 10, none⟩ = some (.slice ya v.bytes.length yc) ∧ w3.cell? ⟨w.heap.size, 12, none⟩ = some (.slice va v.fields.length vc) := fun w3 hb3 =>
    ⟨Nat.lt_of_lt_of_le hs2 hb3.size, belowThen H2.out hb3, (hb3.cell (p := ⟨w.heap.size, 9, none⟩) hs2).trans d9, (hb3.cell (p := ⟨w.heap.size, 10, none⟩) hs2).trans d10, (hb3.cell (p := ⟨w.heap.size, 12, none⟩) hs2).trans d12⟩
  have REST := Lib.hid rest
  clear rest d9 d10 d12
  by_cases hk : v.kind = 3
  · rw [hk] at d0
    go_wp2_with fail
    refine (valid05_any v.time _).mono ?_
    rintro e w3 ⟨b3, rfl, hb3⟩
    obtain ⟨hs3, h3, d9, d10, d12⟩ := REST.out _ hb3
    have H3 := Lib.hid h3
    clear hb3 h3 d0 d5 d6 d7 d8 R2 H2 hs2
    cases b3
    · go_wp2_with fail
      go_ret
      exact ⟨_, rfl, H3.out⟩
    go_wp2_with fail
    refine (valid_any v.text _ (by omega)).mono ?_
    rintro e w4 ⟨b4, rfl, hb4⟩
    have H4 := Lib.hid (belowThen H3.out hb4)
    have d9' := (hb4.cell (p := ⟨w.heap.size, 9, none⟩) hs3).trans d9
    have d10' := (hb4.cell (p := ⟨w.heap.size, 10, none⟩) hs3).trans d10
    have d12' := (hb4.cell (p := ⟨w.heap.size, 12, none⟩) hs3).trans d12
    clear hb4 d9 d10 d12
    cases b4
    · go_wp2_with fail
      go_ret
      exact ⟨_, rfl, H4.out⟩
    go_wp2_with fail
    all_goals first
      | (go_ret; exact ⟨_, rfl, H4.out⟩)
      | (refine (keys_any v.fields va vc _ B N hN hfs (Nat.le_trans hB H4.out.size) (HH.out.atFields.below (H4.out.mono hB))).mono ?_
         rintro e w5 ⟨k5, rfl, hb5⟩
         have H5 := Lib.hid (belowThen H4.out hb5)
         clear hb5
         go_wp2_with fail
         go_ret
         exact ⟨_, rfl, H5.out⟩)
  · have hk' : (v.kind == 3) = false := by simpa using hk
    clear hk
    obtain ⟨hs3, h3, d9, d10, d12⟩ := REST.out _ (Below.refl _ _)
    have H3 := Lib.hid h3
    clear h3 d5 d6 d7 d8 R2 H2 hs2
    go_wp2_with fail
    refine (valid_any v.text _ (by omega)).mono ?_
    rintro e w4 ⟨b4, rfl, hb4⟩
    have H4 := Lib.hid (belowThen H3.out hb4)
    have d9' := (hb4.cell (p := ⟨w.heap.size, 9, none⟩) hs3).trans d9
    have d10' := (hb4.cell (p := ⟨w.heap.size, 10, none⟩) hs3).trans d10
    have d12' := (hb4.cell (p := ⟨w.heap.size, 12, none⟩) hs3).trans d12
    clear hb4 d0 d9 d10 d12
    cases b4
    · go_wp2_with fail
      go_ret
      exact ⟨_, rfl, H4.out⟩
    go_wp2_with fail
    all_goals first
      | (go_ret; exact ⟨_, rfl, H4.out⟩)
      | (refine (keys_any v.fields va vc _ B N hN hfs (Nat.le_trans hB H4.out.size) (HH.out.atFields.below (H4.out.mono hB))).mono ?_
         rintro e w5 ⟨k5, rfl, hb5⟩
         have H5 := Lib.hid (belowThen H4.out hb5)
         clear hb5
         go_wp2_with fail
         go_ret
         exact ⟨_, rfl, H5.out⟩)
end Go.Proofs.YtnoddigkafldfaaDoor
