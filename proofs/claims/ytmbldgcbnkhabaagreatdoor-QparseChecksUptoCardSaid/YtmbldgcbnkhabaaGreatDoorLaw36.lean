/- The law QparseChecks, given both checks: it says yes. -/
import Derived.Test.YtmbldgcbnkhabaaGreatDoorGL
import Derived.Deep.RegionHeld3
namespace Go.Proofs.YtmbldgcbnkhabaaGreatDoor
open Go.RowKit

def YesL (w : World) (e : Ending) (w' : World) : Prop := e = .returned (.bool true) ∧ Below w.heap.size w w'
/-- Under a condition of the region an operation that reads no memory yields its value. -/
theorem yields_skip {ops : Array Oper} {S : World → Prop} {o : Oper} {a : Act} (h : Region.wanted o (yielded ops a.tmps) = false) : YieldsIf Tryz.prog ops S o undef a := .inr ⟨h, rfl⟩
set_option maxRecDepth 100000 in
set_option maxHeartbeats 6400000 in
theorem law36_of (x : ExprD) (w : World) (N : Nat) (cs : List Value) (f : Int) (hN : N ≤ 1073741824) (hx : ExprD.At w w.heap.size N x cs)
    (hP : smlE x → ∀ u : World, Below w.heap.size w u → Calls Tryz.prog 6 #[.agg cs.toArray] u (IntB f u))
    (hR : ∀ u : World, Below w.heap.size w u → Calls Tryz.prog 5 #[.agg cs.toArray] u (IntB f u))
    (hS : f = 0 → dpE 47 x ∧ ndE 47 x ≤ 4096) :
    Calls Tryz.prog 3 #[.agg cs.toArray] w (YesL w) := by
  have HX := Lib.hid hx
  have HP := Lib.hid hP
  have HR := Lib.hid hR
  have HS := Lib.hid hS
  have hl := Lib.hid (show (Tryz.prog.info? 34).map (·.size) = some cs.length by rw [hx.len]; exact sizeE)
  have H0 := Lib.hid (show Below w.heap.size w (w.alloc (.cells cs.toArray 34)) from belowBox w _)
  have R0 := Lib.hid (box_at w cs 34)
  clear hx hP hR hS
  go_enter Tryz.func3, Tryz.ntmps3
  go_wp2_with (refine wpList_load_mid rfl 34 _ rfl w.heap.size 0 rfl cs _ R0.out.range Tryz.underlying34 rfl hl.out ?_)
  refine (small_x 60 x _ w.heap.size N cs 300 (by omega) (by omega) (by omega) hN H0.out.size (HX.out.below H0.out)).mono ?_
  rintro e w1 ⟨k, rfl, hk0, hk1, HK, hb1⟩
  have H1 := Lib.hid (belowThen H0.out hb1)
  have R1 := Lib.hid (R0.out.then hb1 (by rw [World.size_alloc]; omega))
  have hs1 := Lib.hid (show w.heap.size < w1.heap.size by have := hb1.size; rw [World.size_alloc] at this; omega)
  clear hb1
  by_cases hk : k < 0
  · go_wp2_with fail
    go_ret
    exact ⟨rfl, H1.out⟩
  have HSM := Lib.hid (HK.out (by omega))
  go_wp2_with (refine wpList_load_mid rfl 34 _ rfl w.heap.size 0 rfl cs _ R1.out.range Tryz.underlying34 rfl hl.out ?_)
  refine (HR.out _ H1.out).mono ?_
  rintro e w2 ⟨rfl, hb2⟩
  have H2 := Lib.hid (belowThen H1.out hb2)
  have R2 := Lib.hid (R1.out.then hb2 hs1.out)
  have hs2 := Lib.hid (Nat.lt_of_lt_of_le hs1.out hb2.size)
  clear hb2
  by_cases hf : f = 0
  · subst hf
    have HS5 := Lib.hid (HS.out rfl)
    obtain ⟨z, hz⟩ : ∃ z : Int, (ndE 47 x : Int) = z := ⟨_, rfl⟩
    have HZ := Lib.hid hz
    clear hz
    go_wp2_with fail
    have D3 := Lib.hid (show Below w2.heap.size w2 w2.drew from ⟨rfl, rfl, rfl, Nat.le_refl _, fun _ _ => rfl⟩)
    refine wp_region_held_drew (S := fun u => CellsAt u w.heap.size 0 cs ∧ Below w.heap.size w u ∧ w.heap.size < u.heap.size) (by kernel_rfl)
      ⟨R2.out.below D3.out hs2.out, belowThen H2.out D3.out, Nat.lt_of_lt_of_le hs2.out D3.out.size⟩ (fun hHeld => ?_)
    refine' wpAnyH_take (i := 0) (v := _) rfl (by kernel_rfl) (by kernel_rfl) (by kernel_rfl) (fun _ _ _ h => h) (yieldsIf_load_mid (by rfl) 34 _ rfl w.heap.size 0 rfl cs _ (fun u hu => hu.1.range) Tryz.underlying34 rfl hl.out) hHeld ?_
    simp only [Act.put, List.setIfInBounds_toArray]
    refine' wpAnyH_take (i := 2) (v := .int .i64 0) rfl (by kernel_rfl) (by kernel_rfl) (by kernel_rfl) (fun _ _ _ h => h) (.inl ⟨by kernel_rfl, fun u _ => by rfl⟩) hHeld ?_
    simp only [Act.put]
    refine wpAnyH_ready (rs := [1]) (by kernel_rfl) (by simp) ?_
    refine AllReadyH.cons rfl (fun K hK => ?_) AllReadyH.nil
    go_simp
    refine (HP.out HSM.out _ hHeld.2.1).mono ?_
    rintro e u1 ⟨rfl, hb1⟩
    refine hK.out _ _ ⟨hHeld.1.below hb1 hHeld.2.2, belowThen hHeld.2.1 hb1, Nat.lt_of_lt_of_le hHeld.2.2 hb1.size⟩ (fun hHeld1 => ?_)
    clear hK K hHeld hb1
    refine wpAnyH_ready (rs := [3]) (by kernel_rfl) (by simp) ?_
    refine AllReadyH.cons rfl (fun K hK => ?_) AllReadyH.nil
    go_simp
    refine hK.out _ _ hHeld1 (fun hHeldx => ?_)
    clear hK K hHeldx
    refine wpAnyH_ready (rs := [4]) (by kernel_rfl) (by simp) ?_
    refine AllReadyH.cons rfl (fun K hK => ?_) AllReadyH.nil
    go_simp
    refine hK.out _ _ hHeld1 (fun hHeldx => ?_)
    clear hK K hHeldx
    refine wpAnyH_ready (rs := [5]) (by kernel_rfl) (by simp) ?_
    refine AllReadyH.cons rfl (fun K hK => ?_) AllReadyH.nil
    go_simp
    refine hK.out _ _ hHeld1 (fun hHeldx => ?_)
    clear hK K hHeldx
    refine wpAnyH_ready (rs := [6]) (by kernel_rfl) (by simp) ?_
    refine AllReadyH.cons rfl (fun K hK => ?_) AllReadyH.nil
    go_simp
    refine hK.out _ _ hHeld1 (fun hHeldx => ?_)
    clear hK K hHeldx
    refine wpAnyH_ready (rs := [7]) (by kernel_rfl) (by simp) ?_
    refine AllReadyH.cons rfl (fun K hK => ?_) AllReadyH.nil
    go_simp
    refine hK.out _ _ hHeld1 (fun hHeldx => ?_)
    clear hK K hHeldx
    refine' wpAnyH_take (i := 8) (v := _) rfl (by kernel_rfl) (by kernel_rfl) (by kernel_rfl) (fun _ _ _ h => h) (yieldsIf_load_mid (by kernel_rfl) 34 _ rfl w.heap.size 0 rfl cs _ (fun u hu => hu.1.range) Tryz.underlying34 rfl hl.out) hHeld1 ?_
    simp only [Act.put, List.setIfInBounds_toArray]
    refine' wpAnyH_take (i := 10) (v := _) rfl (by kernel_rfl) (by kernel_rfl) (by kernel_rfl) (fun _ _ _ h => h) (yieldsIf_load_mid (by kernel_rfl) 34 _ rfl w.heap.size 0 rfl cs _ (fun u hu => hu.1.range) Tryz.underlying34 rfl hl.out) hHeld1 ?_
    simp only [Act.put]
    refine wpAnyH_ready (rs := [9]) (by kernel_rfl) (by simp) ?_
    refine AllReadyH.cons rfl (fun K hK => ?_) AllReadyH.nil
    go_simp
    refine (size_p x _ w.heap.size N cs hN hHeld1.2.1.size HS5.out.2 (HX.out.below hHeld1.2.1)).mono ?_
    rintro e u2 ⟨rfl, hb2⟩
    rw [HZ.out]
    refine hK.out _ _ ⟨hHeld1.1.below hb2 hHeld1.2.2, belowThen hHeld1.2.1 hb2, Nat.lt_of_lt_of_le hHeld1.2.2 hb2.size⟩ (fun hHeld2 => ?_)
    clear hK K hHeld1 hb2
    refine wpAnyH_ready (rs := [11]) (by kernel_rfl) (by simp) ?_
    refine AllReadyH.cons rfl (fun K hK => ?_) AllReadyH.nil
    go_simp
    refine (size_r 47 x HS5.out.1 HS5.out.2 _ w.heap.size N cs hN hHeld2.2.1.size (HX.out.below hHeld2.2.1)).mono ?_
    rintro e u3 ⟨rfl, hb3⟩
    rw [HZ.out]
    refine hK.out _ _ ⟨hHeld2.1.below hb3 hHeld2.2.2, belowThen hHeld2.2.1 hb3, Nat.lt_of_lt_of_le hHeld2.2.2 hb3.size⟩ (fun hHeld3 => ?_)
    clear hK K hHeld2 hb3
    refine wpAnyH_ready (rs := [12]) (by kernel_rfl) (by simp) ?_
    refine AllReadyH.cons rfl (fun K hK => ?_) AllReadyH.nil
    go_simp
    refine hK.out _ _ hHeld3 (fun hHeldx => ?_)
    clear hK K hHeldx
    refine wpAnyH_ready (rs := [13]) (by kernel_rfl) (by simp) ?_
    refine AllReadyH.cons rfl (fun K hK => ?_) AllReadyH.nil
    go_simp
    refine hK.out _ _ hHeld3 (fun hHeldx => ?_)
    clear hK K hHeldx
    refine wpAnyH_ready (rs := [14]) (by kernel_rfl) (by simp) ?_
    refine AllReadyH.cons rfl (fun K hK => ?_) AllReadyH.nil
    go_simp
    refine hK.out _ _ hHeld3 (fun hHeldx => ?_)
    clear hK K hHeldx
    refine wpAnyH_ready (rs := [15]) (by kernel_rfl) (by simp) ?_
    refine AllReadyH.cons rfl (fun K hK => ?_) AllReadyH.nil
    go_simp
    refine hK.out _ _ hHeld3 (fun hHeldx => ?_)
    clear hK K hHeldx
    refine wpAnyH_done (by kernel_rfl) ?_ _
    go_wp2_with fail
    go_ret
    exact ⟨rfl, hHeld3.2.1⟩
  · have hf1 : (f == 0) = false := by simpa using hf
    have hf2 : (f != 0) = true := by simpa using hf
    go_wp2_with fail
    have D3 := Lib.hid (show Below w2.heap.size w2 w2.drew from ⟨rfl, rfl, rfl, Nat.le_refl _, fun _ _ => rfl⟩)
    refine wp_region_held_drew (S := fun u => CellsAt u w.heap.size 0 cs ∧ Below w.heap.size w u ∧ w.heap.size < u.heap.size) (by kernel_rfl)
      ⟨R2.out.below D3.out hs2.out, belowThen H2.out D3.out, Nat.lt_of_lt_of_le hs2.out D3.out.size⟩ (fun hHeld => ?_)
    refine' wpAnyH_take (i := 0) (v := _) rfl (by kernel_rfl) (by kernel_rfl) (by kernel_rfl) (fun _ _ _ h => h) (yieldsIf_load_mid (by rfl) 34 _ rfl w.heap.size 0 rfl cs _ (fun u hu => hu.1.range) Tryz.underlying34 rfl hl.out) hHeld ?_
    simp only [Act.put, List.setIfInBounds_toArray]
    refine' wpAnyH_take (i := 2) (v := .int .i64 f) rfl (by kernel_rfl) (by kernel_rfl) (by kernel_rfl) (fun _ _ _ h => h) (.inl ⟨by kernel_rfl, fun u _ => by rfl⟩) hHeld ?_
    simp only [Act.put]
    refine wpAnyH_ready (rs := [1]) (by kernel_rfl) (by simp) ?_
    refine AllReadyH.cons rfl (fun K hK => ?_) AllReadyH.nil
    go_simp
    refine (HP.out HSM.out _ hHeld.2.1).mono ?_
    rintro e u1 ⟨rfl, hb1⟩
    refine hK.out _ _ ⟨hHeld.1.below hb1 hHeld.2.2, belowThen hHeld.2.1 hb1, Nat.lt_of_lt_of_le hHeld.2.2 hb1.size⟩ (fun hHeld1 => ?_)
    clear hK K hHeld hb1
    refine wpAnyH_ready (rs := [3]) (by kernel_rfl) (by simp) ?_
    refine AllReadyH.cons rfl (fun K hK => ?_) AllReadyH.nil
    go_simp
    refine hK.out _ _ hHeld1 (fun hHeldx => ?_)
    clear hK K hHeldx
    refine wpAnyH_ready (rs := [4]) (by kernel_rfl) (by simp) ?_
    refine AllReadyH.cons rfl (fun K hK => ?_) AllReadyH.nil
    go_simp
    refine hK.out _ _ hHeld1 (fun hHeldx => ?_)
    clear hK K hHeldx
    refine wpAnyH_ready (rs := [5]) (by kernel_rfl) (by simp) ?_
    refine AllReadyH.cons rfl (fun K hK => ?_) AllReadyH.nil
    go_simp
    refine hK.out _ _ hHeld1 (fun hHeldx => ?_)
    clear hK K hHeldx
    refine wpAnyH_ready (rs := [6]) (by kernel_rfl) (by simp) ?_
    refine AllReadyH.cons rfl (fun K hK => ?_) AllReadyH.nil
    go_simp
    refine hK.out _ _ hHeld1 (fun hHeldx => ?_)
    clear hK K hHeldx
    refine wpAnyH_ready (rs := [7]) (by kernel_rfl) (by simp) ?_
    refine AllReadyH.cons rfl (fun K hK => ?_) AllReadyH.nil
    go_simp
    refine hK.out _ _ hHeld1 (fun hHeldx => ?_)
    clear hK K hHeldx
    refine' wpAnyH_take (i := 8) (v := _) rfl (by kernel_rfl) (by kernel_rfl) (by kernel_rfl) (fun _ _ _ h => h) (yields_skip (by kernel_rfl)) hHeld1 ?_
    simp only [Act.put, List.setIfInBounds_toArray]
    refine' wpAnyH_take (i := 10) (v := _) rfl (by kernel_rfl) (by kernel_rfl) (by kernel_rfl) (fun _ _ _ h => h) (yields_skip (by kernel_rfl)) hHeld1 ?_
    simp only [Act.put]
    refine' wpAnyH_take (i := 9) (v := _) rfl (by kernel_rfl) (by kernel_rfl) (by kernel_rfl) (fun _ _ _ h => h) (yields_skip (by kernel_rfl)) hHeld1 ?_
    simp only [Act.put]
    refine' wpAnyH_take (i := 11) (v := _) rfl (by kernel_rfl) (by kernel_rfl) (by kernel_rfl) (fun _ _ _ h => h) (yields_skip (by kernel_rfl)) hHeld1 ?_
    simp only [Act.put]
    refine' wpAnyH_take (i := 12) (v := _) rfl (by kernel_rfl) (by kernel_rfl) (by kernel_rfl) (fun _ _ _ h => h) (yields_skip (by kernel_rfl)) hHeld1 ?_
    simp only [Act.put]
    refine wpAnyH_ready (rs := [13]) (by kernel_rfl) (by simp) ?_
    refine AllReadyH.cons rfl (fun K hK => ?_) AllReadyH.nil
    go_simp
    refine hK.out _ _ hHeld1 (fun hHeldx => ?_)
    clear hK K hHeldx
    refine wpAnyH_ready (rs := [14]) (by kernel_rfl) (by simp) ?_
    refine AllReadyH.cons rfl (fun K hK => ?_) AllReadyH.nil
    go_simp
    refine hK.out _ _ hHeld1 (fun hHeldx => ?_)
    clear hK K hHeldx
    refine wpAnyH_ready (rs := [15]) (by kernel_rfl) (by simp) ?_
    refine AllReadyH.cons rfl (fun K hK => ?_) AllReadyH.nil
    go_simp
    refine hK.out _ _ hHeld1 (fun hHeldx => ?_)
    clear hK K hHeldx
    refine wpAnyH_done (by kernel_rfl) ?_ _
    go_wp2_with fail
    go_ret
    exact ⟨rfl, hHeld1.2.1⟩
end Go.Proofs.YtmbldgcbnkhabaaGreatDoor
