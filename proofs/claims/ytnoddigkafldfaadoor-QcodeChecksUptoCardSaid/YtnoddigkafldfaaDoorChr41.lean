/- datakitref41.Check: what is wrong with code. -/
import Derived.Test.YtnoddigkafldfaaDoorOne41r
import Derived.Test.YtnoddigkafldfaaDoorChc41
import Derived.Deep.RegionHeld
import Derived.Deep.MidRow
namespace Go.Proofs.YtnoddigkafldfaaDoor
open Go.RowKit

set_option maxRecDepth 100000 in
set_option maxHeartbeats 6400000 in
theorem code_ref (start : Int) (l : List InsD) (a : Option Addr) (c : Nat) (w : World) (N : Nat) (hN : N ≤ 4294967296) (hl : l.length ≤ 400) (hA : TabAt w) (h : InssAt w w.heap.size N l a) :
    Calls Tryd.prog 6 #[.agg #[.int .i64 start, .slice a l.length c]] w (IntB (codeE start l) w) := by
  have HA := Lib.hid hA
  have HL := Lib.hid h
  obtain ⟨n, hn⟩ : ∃ n, l.length = n := ⟨_, rfl⟩
  have HNL := Lib.hid hn
  have H0 := Lib.hid (belowBox w (.cells (codeC start n a c).toArray 24))
  have R0 := Lib.hid (box_at w (codeC start n a c) 24)
  rw [hn] at hl ⊢
  clear hA h hn
  by_cases h1 : start < 0
  · have HR := Lib.hid (show codeE start l = 2 by unfold codeE; rw [if_pos (.inl h1)])
    go_enter Tryd.func6, Tryd.ntmps6
    go_wp2_with fail
    go_ret
    exact int_ret HR.out H0.out
  by_cases h2 : (n : Int) ≤ start
  · have HR := Lib.hid (show codeE start l = 2 by unfold codeE; rw [HNL.out, if_pos (.inr h2)])
    have h3 : 0 ≤ start := by omega
    clear h1
    go_enter Tryd.func6, Tryd.ntmps6
    go_wp2_with fail
    go_ret
    exact int_ret HR.out H0.out
  have HR := Lib.hid (show codeE start l = inssE n (l.drop 0) by rw [codeE_ok (by rw [HNL.out]; omega), HNL.out])
  have h3 : 0 ≤ start := by omega
  have h4 : start < (n : Int) := by omega
  clear h1 h2
  go_enter Tryd.func6, Tryd.ntmps6
  go_wp2_with fail
  go_simp
  go_loopw [3] (fun t wr => ∃ j : Nat, j ≤ n ∧ t = .int .i64 j ∧ Hid (codeE start l = inssE n (l.drop j)) ∧ Hid (CellsAt wr w.heap.size 0 (codeC start n a c)) ∧ Hid (Below w.heap.size w wr) ∧ w.heap.size < wr.heap.size) (fun t _ => n - (intOf t).toNat)
  case atStart => exact ⟨0, by omega, rfl, HR, R0, H0, by rw [World.size_alloc]; omega⟩
  case round =>
    clear R0 H0 HR
    obtain ⟨w1, rfl⟩ : ∃ w1, w1 = wr := ⟨wr, rfl⟩
    obtain ⟨j, hj, rfl, HE, R1, H1, hs1⟩ := hrel
    have e0 := R1.out.get0 (j := 1) (v := .slice a n c) rfl
    by_cases hlt : j < n
    · have hlt2 : j < l.length := by rw [HNL.out]; exact hlt
      obtain ⟨b, o, rfl, hb, cs, g1, g2⟩ := HL.out.get hlt2
      obtain ⟨x, hx⟩ : ∃ x, l[j] = x := ⟨_, rfl⟩
      rw [hx] at g2
      have HX := Lib.hid hx
      have hbb := hb
      have HC := Lib.hid (g1.below H1.out hb)
      have HI := Lib.hid g2
      have hli := Lib.hid (show (Tryd.prog.info? 40).map (·.size) = some cs.length by rw [g2.len]; exact sizeIns)
      clear hx g1 g2
      go_wp2_with fail
      have DD := Lib.hid (show Below w1.heap.size w1 w1.drew from ⟨rfl, rfl, rfl, Nat.le_refl _, fun _ _ => rfl⟩)
      have H2 := Lib.hid (belowThen H1.out DD.out)
      have R2 := Lib.hid (R1.out.then DD.out hs1)
      have HC2 := Lib.hid (HC.out.below DD.out (by omega))
      have hs2 : w.heap.size < w1.drew.heap.size := hs1
      have e2 := R2.out.get0 (j := 1) (v := .slice (some ⟨b, o, none⟩) n c) rfl
      refine wp_region_held_drew (S := fun u => Below w1.heap.size w1 u ∧ u.cell? ⟨w.heap.size, 1, none⟩ = some (.slice (some ⟨b, o, none⟩) n c)) (by kernel_rfl) ⟨DD.out, e2⟩ (fun hHeld => ?_)
      refine wpAnyH_take (i := 0) (v := ?v0) rfl (by kernel_rfl) (by kernel_rfl) (by kernel_rfl) (fun _ _ _ h => h) (Or.inl ⟨by rfl, ?y0⟩) hHeld ?r0
      case y0 =>
        intro u hSu
        have q1 := hSu.2
        clear hSu
        go_simp
        try (with_reducible rfl)
      simp only [Act.put, List.setIfInBounds_toArray]
      refine wpAnyH_take (i := 1) (v := ?v1) rfl (by kernel_rfl) (by kernel_rfl) (by kernel_rfl) (fun _ _ _ h => h) (Or.inl ⟨by rfl, ?y1⟩) hHeld ?r1
      case y1 =>
        intro u hSu
        have q1 := hSu.2
        clear hSu
        go_simp
        try (with_reducible rfl)
      simp only [Act.put]
      refine wpAnyH_take (i := 2) (v := ?v2) rfl (by kernel_rfl) (by kernel_rfl) (by kernel_rfl) (fun _ _ _ h => h) (Or.inl ⟨by rfl, ?y2⟩) hHeld ?r2
      case y2 =>
        intro u hSu
        have q1 := hSu.2
        clear hSu
        go_simp
        try (with_reducible rfl)
      simp only [Act.put]
      refine wpAnyH_take (i := 3) (v := ?v3) rfl (by kernel_rfl) (by kernel_rfl) (by kernel_rfl) (fun _ _ _ h => h) (Or.inl ⟨by rfl, ?y3⟩) hHeld ?r3
      case y3 =>
        intro u hSu
        have q1 := hSu.2
        clear hSu
        go_simp
        try (with_reducible rfl)
      simp only [Act.put]
      refine' wpAnyH_take (i := 4) (v := _) rfl (by kernel_rfl) (by kernel_rfl) (by kernel_rfl) (fun _ _ _ h => h) (yieldsIf_load_mid (by rfl) 40 _ rfl b (o + j * 17) rfl cs _ (fun u hu => (HC.out.below hu.1 (by omega)).range) Tryd.underlying40 rfl hli.out) hHeld ?_
      simp only [Act.put]
      refine wpAnyH_take (i := 5) (v := ?v5) rfl (by kernel_rfl) (by kernel_rfl) (by kernel_rfl) (fun _ _ _ h => h) (Or.inl ⟨by rfl, ?y5⟩) hHeld ?r5
      case y5 =>
        intro u hSu
        have q1 := hSu.2
        clear hSu
        go_simp
        try (with_reducible rfl)
      simp only [Act.put]
      refine wpAnyH_take (i := 6) (v := ?v6) rfl (by kernel_rfl) (by kernel_rfl) (by kernel_rfl) (fun _ _ _ h => h) (Or.inl ⟨by rfl, ?y6⟩) hHeld ?r6
      case y6 =>
        intro u hSu
        have q1 := hSu.2
        clear hSu
        go_simp
        try (with_reducible rfl)
      simp only [Act.put]
      refine wpAnyH_take (i := 7) (v := ?v7) rfl (by kernel_rfl) (by kernel_rfl) (by kernel_rfl) (fun _ _ _ h => h) (Or.inl ⟨by rfl, ?y7⟩) hHeld ?r7
      case y7 =>
        intro u hSu
        have q1 := hSu.2
        clear hSu
        go_simp
        try (with_reducible rfl)
      simp only [Act.put]
      refine wpAnyH_ready (rs := [8]) (by kernel_rfl) (by simp) ?_
      refine AllReadyH.cons rfl (fun K hK => ?_) AllReadyH.nil
      go_simp
      refine (one_ref x n _ w.heap.size N cs hN H2.out.size (HA.out.then H2.out) (HI.out.below H2.out)).mono ?_
      rintro e w3 ⟨rfl, hb3⟩
      refine hK.out _ _ ⟨belowThen DD.out hb3, (R2.out.then hb3 hs2).get0 (j := 1) (v := .slice (some ⟨b, o, none⟩) n c) rfl⟩ (fun hHeld1 => ?_)
      clear hK K hHeld
      refine wpAnyH_ready (rs := [9]) (by kernel_rfl) (by simp) ?_
      refine AllReadyH.cons rfl (fun K hK => ?_) AllReadyH.nil
      go_simp
      refine hK.out _ _ hHeld1 (fun hHeld2 => ?_)
      clear hK K hHeld2 hHeld1
      refine wpAnyH_done (by kernel_rfl) ?_ _
      have H3 := Lib.hid (belowThen H2.out hb3)
      have R3 := Lib.hid (R2.out.then hb3 hs2)
      have hs3 : w.heap.size < w3.heap.size := Nat.lt_of_lt_of_le hs2 hb3.size
      obtain ⟨k, hk⟩ : ∃ k, insE x n = k := ⟨_, rfl⟩
      have HK := Lib.hid hk
      rw [hk]
      clear hb3 hk
      by_cases hk0 : k = 0
      · have HE2 := Lib.hid (show codeE start l = inssE n (l.drop (j + 1)) by rw [HE.out, inssE_step hlt2 (by rw [HX.out, HK.out]; exact hk0)])
        subst hk0
        go_wp2
        go_roundw
        case rel => exact ⟨j + 1, by omega, by go_num, HE2, R3, H3, hs3⟩
        case measure => simp [intOf] <;> omega
      · have HE2 := Lib.hid (show codeE start l = k by rw [HE.out, inssE_stop hlt2 (by rw [HX.out, HK.out]; exact hk0), HX.out, HK.out])
        have k1 : (k == 0) = false := by simpa using hk0
        have k2 : (k != 0) = true := by simpa using hk0
        clear hk0
        go_wp2_with fail
        go_ret
        exact int_ret HE2.out H3.out
    · obtain rfl : j = n := by omega
      have HE2 := Lib.hid (show codeE start l = 0 by rw [HE.out, ← HNL.out]; exact inssE_end)
      go_wp2_with fail
      go_ret
      exact int_ret HE2.out H1.out
end Go.Proofs.YtnoddigkafldfaaDoor
