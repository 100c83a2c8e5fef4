/- The law ModuleFrees: it says yes. -/
import Derived.Test.YtfegnmbdgdjkgaaGreatFre38
import Derived.Test.YtfegnmbdgdjkgaaGreatGV
import Derived.Test.YtfegnmbdgdjkgaaGreatGK
import Derived.Deep.RegionHeld3
namespace Go.Proofs.YtfegnmbdgdjkgaaGreat
open Go.RowKit

theorem err_good38 {x : ExprD} (h : errE x = 0) : gdE 47 x ∧ ndE 47 x ≤ 4096 := by
  have hr := (lkE_range 48 x 0 (by decide) (by decide)).2
  obtain ⟨_, h1⟩ := look_done identB rgB 47 x 0 (lkE 48 x 0).1 (Prod.ext rfl h)
  exact ⟨look_good identB rgB 47 x 0 (lkE 48 x 0).1 (Prod.ext rfl h), by omega⟩
theorem NmsAt.later {w w' : World} {l : List ByteArray} {a : Option Addr} (h : NmsAt w 0 w.heap.size l a) (hb : Below w.heap.size w w') : NmsAt w' 0 w'.heap.size l a :=
  (h.keep (Kept.of_below hb)).mono hb.size
set_option maxRecDepth 100000 in
set_option maxHeartbeats 6400000 in
theorem law38 (x : ExprD) (w : World) (N : Nat) (cs : List Value) (hN : N ≤ 1048576) (hN1 : 1 ≤ N) (hM : MaxC w) (hx : ExprD.At w w.heap.size N x cs) :
    Calls Tryz.prog 3 #[.agg cs.toArray] w (YesS w) := by
  have HX := Lib.hid hx
  have HM := Lib.hid hM
  have hl := Lib.hid (show (Tryz.prog.info? 34).map (·.size) = some cs.length by rw [hx.len]; exact sizeE)
  have H0 := Lib.hid (show Below w.heap.size w (w.alloc (.cells cs.toArray 34)) from belowBox w _)
  have R0 := Lib.hid (box_at w cs 34)
  clear hx hM
  go_enter Tryz.func3, Tryz.ntmps3
  go_wp2_with (refine wpList_load_mid rfl 34 _ rfl w.heap.size 0 rfl cs _ R0.out.range Tryz.underlying34 rfl hl.out ?_)
  refine (few38 x _ w.heap.size N cs hN hN1 H0.out.size (HX.out.below H0.out)).mono ?_
  rintro e w1 ⟨k, rfl, hb1⟩
  have H1 := Lib.hid (belowThen H0.out hb1)
  have R1 := Lib.hid (R0.out.then hb1 (by rw [World.size_alloc]; omega))
  have hs1 := Lib.hid (show w.heap.size < w1.heap.size by have := hb1.size; rw [World.size_alloc] at this; omega)
  clear hb1
  cases k
  · go_wp2_with fail
    go_ret
    exact ⟨rfl, H1.out⟩
  go_wp2_with (refine wpList_load_mid_f rfl 34 _ rfl w.heap.size 0 rfl cs _ R1.out.range Tryz.underlying34 rfl hl.out ?_)
  refine (check_r x _ w.heap.size N cs (by omega) H1.out.size (HX.out.below H1.out)).mono ?_
  rintro e w2 ⟨rfl, hb2⟩
  have H2 := Lib.hid (belowThen H1.out hb2)
  have R2 := Lib.hid (R1.out.then hb2 hs1.out)
  have hs2 := Lib.hid (Nat.lt_of_lt_of_le hs1.out hb2.size)
  clear hb2
  obtain ⟨f, hf0⟩ : ∃ f, errE x = f := ⟨_, rfl⟩
  have HF := Lib.hid hf0
  rw [hf0]
  clear hf0
  by_cases hf : f = 0
  · subst hf
    obtain ⟨hg, hnd⟩ := err_good38 HF.out
    have HG := Lib.hid hg
    have HND := Lib.hid hnd
    obtain ⟨R, hR⟩ : ∃ R, R = insAll [] (frE 47 x []) := ⟨_, rfl⟩
    have HRL := Lib.hid (show R.length ≤ 1048576 by
      have h1 := insAll_len (frE 47 x []) []
      have h2 := frE_len 47 x []
      rw [hR]
      simp only [List.length_nil] at h1
      omega)
    have HR := Lib.hid hR
    clear hg hnd hR
    go_wp2_with fail
    have D3 := Lib.hid (show Below w2.heap.size w2 w2.drew from ⟨rfl, rfl, rfl, Nat.le_refl _, fun _ _ => rfl⟩)
    refine wp_region_held_drew (S := fun u => CellsAt u w.heap.size 0 cs ∧ Below w.heap.size w u ∧ w.heap.size < u.heap.size) (by kernel_rfl)
      ⟨R2.out.below D3.out hs2.out, belowThen H2.out D3.out, Nat.lt_of_lt_of_le hs2.out D3.out.size⟩ (fun hHeld => ?_)
    refine' wpAnyH_take (i := 0) (v := .agg cs.toArray) rfl (by kernel_rfl) (by kernel_rfl) (by kernel_rfl) (fun _ _ _ h => h) (yieldsIf_load_mid (by kernel_rfl) 34 _ rfl w.heap.size 0 rfl cs _ (fun u hu => hu.1.range) Tryz.underlying34 rfl hl.out) hHeld ?_
    simp only [Act.put, List.setIfInBounds_toArray]
    refine' wpAnyH_take (i := 2) (v := .agg cs.toArray) rfl (by kernel_rfl) (by kernel_rfl) (by kernel_rfl) (fun _ _ _ h => h) (yieldsIf_load_mid (by kernel_rfl) 34 _ rfl w.heap.size 0 rfl cs _ (fun u hu => hu.1.range) Tryz.underlying34 rfl hl.out) hHeld ?_
    simp only [Act.put]
    refine wpAnyH_ready (rs := [1]) (by kernel_rfl) (by simp) ?_
    refine AllReadyH.cons rfl (fun K hK => ?_) AllReadyH.nil
    go_simp
    refine (freep_p x _ N cs hN HG.out HND.out (HM.out.then hHeld.2.1) ((HX.out.below hHeld.2.1).mono hHeld.2.1.size)).mono ?_
    rw [← HR.out]
    rintro e u1 ⟨a1, c1, rfl, hn1, hb1⟩
    have HN1 := Lib.hid hn1
    refine hK.out _ _ ⟨hHeld.1.below hb1 hHeld.2.2, belowThen hHeld.2.1 hb1, Nat.lt_of_lt_of_le hHeld.2.2 hb1.size⟩ (fun hHeld1 => ?_)
    clear hK K hHeld hb1 hn1
    refine wpAnyH_ready (rs := [3]) (by kernel_rfl) (by simp) ?_
    refine AllReadyH.cons rfl (fun K hK => ?_) AllReadyH.nil
    go_simp
    refine (freer_r x _ w.heap.size N cs hN hHeld1.2.1.size HG.out HND.out (HX.out.below hHeld1.2.1)).mono ?_
    rw [← HR.out]
    rintro e u2 ⟨a2, c2, rfl, hn2, hb2⟩
    have HN2 := Lib.hid hn2
    have HN12 := Lib.hid (HN1.out.later hb2)
    refine hK.out _ _ ⟨hHeld1.1.below hb2 hHeld1.2.2, belowThen hHeld1.2.1 hb2, Nat.lt_of_lt_of_le hHeld1.2.2 hb2.size⟩ (fun hHeld2 => ?_)
    clear hK K hHeld1 hb2 hn2
    refine wpAnyH_ready (rs := [4]) (by kernel_rfl) (by simp) ?_
    refine AllReadyH.cons rfl (fun K hK => ?_) AllReadyH.nil
    go_simp
    refine (strs_yes R a1 a2 c1 c2 _ HRL.out HN12.out HN2.out).mono ?_
    rintro e u3 ⟨rfl, hb3⟩
    refine hK.out _ _ ⟨hHeld2.1.below hb3 hHeld2.2.2, belowThen hHeld2.2.1 hb3, Nat.lt_of_lt_of_le hHeld2.2.2 hb3.size⟩ (fun hHeld3 => ?_)
    clear hK K hHeld2 hb3
    refine wpAnyH_ready (rs := [5]) (by kernel_rfl) (by simp) ?_
    refine AllReadyH.cons rfl (fun K hK => ?_) AllReadyH.nil
    go_simp
    refine hK.out _ _ hHeld3 (fun hHeldx => ?_)
    clear hK K hHeldx
    refine wpAnyH_done (by kernel_rfl) ?_ _
    go_wp2_with fail
    go_ret
    exact ⟨rfl, hHeld3.2.1⟩
  · have hf1 : (f == 0) = false := by simpa using hf
    have hf2 : (f != 0) = true := by simpa using hf
    go_wp2_with fail
    go_ret
    exact ⟨rfl, H2.out⟩
end Go.Proofs.YtfegnmbdgdjkgaaGreat
