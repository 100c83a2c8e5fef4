/- The law: Single of the program and of the reference say the same of every expression that Check accepts. -/
import Derived.Test.YtbpdbmjfnbpihaaFew43
import Derived.Deep.RegionHeld3
import Derived.Test.YtbpdbmjfnbpihaaSingle43e
namespace Go.Proofs.Ytbpdbmjfnbpihaa
open Go.RowKit

theorem fold_set (cs : List Value) : ∀ (n : Nat) (z : Array Value), n + cs.length ≤ z.size → (List.foldl (fun cs x => cs.setIfInBounds x.snd x.fst) z (cs.zipIdx n)).toList = z.toList.take n ++ cs ++ z.toList.drop (n + cs.length) := by
  induction cs with
  | nil => intro n z h; simp
  | cons c r ih =>
    intro n z h
    simp only [List.length_cons] at h
    rw [List.zipIdx_cons, List.foldl_cons, ih (n + 1) _ (by simp; omega)]
    have hn : n < z.toList.length := by simp; omega
    simp only [Array.toList_setIfInBounds, List.length_cons]
    have hl : (List.take n z.toList).length = n := by simp; omega
    rw [List.drop_set_of_lt (by omega), List.take_set, List.take_succ_eq_append_getElem hn, List.set_append, if_neg (by omega), hl]
    simp [Nat.add_assoc, Nat.add_comm 1]
theorem fold_set_all {cs : List Value} {z : Array Value} (h : z.size = cs.length) : List.foldl (fun cs x => cs.setIfInBounds x.snd x.fst) z cs.zipIdx = cs.toArray := by
  apply Array.toList_inj.1
  rw [fold_set cs 0 z (by omega)]
  simp
  omega

def LawR (w : World) (e : Ending) (w' : World) : Prop := e = .returned (.bool true) ∧ Below w.heap.size w w'

set_option maxHeartbeats 1600000 in
theorem law43 (x : ExprD) (w : World) (N : Nat) (cs : List Value) (hN : N ≤ 4294967296) (hN1 : 1 ≤ N) (hx : ExprD.At w w.heap.size N x cs) :
    Calls Try.prog 4 #[.agg cs.toArray] w (LawR w) := by
  have h17 : cs.length = 17 := hx.len
  have HX0 := Lib.hid hx
  have hl := Lib.hid (show (Try.prog.info? 38).map (·.size) = some cs.length by rw [hx.len]; exact sizeE)
  have H0 := Lib.hid (show Below w.heap.size w (w.alloc (.cells cs.toArray 38)) from belowBox w _)
  have R0 := Lib.hid (box_at w cs 38)
  have H1 := Lib.hid (belowThen H0.out (belowBox (w.alloc (.cells cs.toArray 38)) (.cells cs.toArray 38)))
  have hs1 : ((w.alloc (.cells cs.toArray 38)).alloc (.cells cs.toArray 38)).heap.size = w.heap.size + 2 := by simp [World.size_alloc]
  have hs0 : (w.alloc (.cells cs.toArray 38)).heap.size = w.heap.size + 1 := by simp [World.size_alloc]
  have R1 := Lib.hid (show CellsAt ((w.alloc (.cells cs.toArray 38)).alloc (.cells cs.toArray 38)) w.heap.size 0 cs from R0.out.below (belowBox (w.alloc (.cells cs.toArray 38)) (.cells cs.toArray 38)) (by omega))
  have R1' := Lib.hid (show CellsAt ((w.alloc (.cells cs.toArray 38)).alloc (.cells cs.toArray 38)) (w.heap.size + 1) 0 cs from by rw [← hs0]; exact box_at _ cs 38)
  have HX := Lib.hid (hx.below (H1.out))
  clear hx
  go_enter Try.func4, Try.ntmps4
  go_wp2_with (refine wpList_load_mid rfl 38 _ rfl w.heap.size 0 rfl cs _ R0.out.range Try.underlying38 rfl hl.out ?_)
  rw [fold_set_all (by rw [h17]; rfl)]
  refine (few_any x _ (w.heap.size + 2) N (w.heap.size + 1) 1 cs (by omega) hN1 (by omega) (by omega) R1'.out (HX.out.mono (by omega))).mono ?_
  rintro e w1 ⟨k, rfl, hb1⟩
  have H2 := Lib.hid (belowThen H1.out hb1)
  have hw1 : w.heap.size + 2 ≤ w1.heap.size := by have := hb1.size; omega
  have R2 := Lib.hid (R1.out.below hb1 (by omega))
  clear hb1
  cases k with
  | false =>
    go_wp2_with fail
    go_ret
    exact ⟨rfl, H2.out⟩
  | true =>
    have HX2 := Lib.hid (HX0.out.below H2.out)
    have B1 : w.heap.size ≤ w1.heap.size := by omega
    go_wp2_with (refine wpList_load_mid_g rfl 38 _ rfl w.heap.size 0 rfl cs _ R2.out.range Try.underlying38 rfl hl.out ?_)
    refine (check36_any x w1 w.heap.size N cs hN B1 HX2.out).mono ?_
    rintro e w2 ⟨f, rfl, hok, hb2⟩
    have H3 := Lib.hid (belowThen H2.out hb2)
    have hw2 : w.heap.size + 2 ≤ w2.heap.size := by have := hb2.size; omega
    have R3 := Lib.hid (R2.out.below hb2 (by omega))
    have HX3 := Lib.hid (HX0.out.below H3.out)
    clear hb2
    by_cases hf : f = 0
    · subst hf
      have HO := Lib.hid (show x.op = 30 ∨ okE x from .inr (hok rfl))
      clear hok
      go_wp2_with fail
      have D3 := Lib.hid (show Below w2.heap.size w2 w2.drew from ⟨rfl, rfl, rfl, Nat.le_refl _, fun _ _ => rfl⟩)
      refine wp_region_held_drew (S := fun u => CellsAt u w.heap.size 0 cs ∧ Below w.heap.size w u ∧ w.heap.size < u.heap.size) (by kernel_rfl)
        ⟨R3.out.below D3.out (by omega), belowThen H3.out D3.out, Nat.lt_of_lt_of_le (by omega) D3.out.size⟩ (fun hHeld => ?_)
      refine' wpAnyH_take (i := 0) (v := _) rfl (by kernel_rfl) (by kernel_rfl) (by kernel_rfl) (fun _ _ _ h => h) (yieldsIf_load_mid (by rfl) 38 _ rfl w.heap.size 0 rfl cs _ (fun u hu => hu.1.range) Try.underlying38 rfl hl.out) (by assumption) ?_
      simp only [Act.put, List.setIfInBounds_toArray]
      refine' wpAnyH_take (i := 2) (v := _) rfl (by kernel_rfl) (by kernel_rfl) (by kernel_rfl) (fun _ _ _ h => h) (yieldsIf_load_mid (by rfl) 38 _ rfl w.heap.size 0 rfl cs _ (fun u hu => hu.1.range) Try.underlying38 rfl hl.out) (by assumption) ?_
      simp only [Act.put]
      refine wpAnyH_ready (rs := [1]) (by kernel_rfl) (by simp) ?_
      refine AllReadyH.cons rfl (fun K hK => ?_) AllReadyH.nil
      go_simp
      refine (sing10_any _ x _ w.heap.size N cs (Nat.le_refl _) hN hHeld.2.1.size HO.out (HX0.out.below hHeld.2.1)).mono ?_
      rintro e u1 ⟨rfl, hb1⟩
      refine hK.out _ _ ⟨hHeld.1.below hb1 hHeld.2.2, belowThen hHeld.2.1 hb1, Nat.lt_of_lt_of_le hHeld.2.2 hb1.size⟩ (fun hHeld1 => ?_)
      clear hK K hHeld
      refine wpAnyH_ready (rs := [3]) (by kernel_rfl) (by simp) ?_
      refine AllReadyH.cons rfl (fun K hK => ?_) AllReadyH.nil
      go_simp
      refine (sing11_any _ x _ w.heap.size N cs (Nat.le_refl _) hN hHeld1.2.1.size HO.out (HX0.out.below hHeld1.2.1)).mono ?_
      rintro e u2 ⟨rfl, hb2⟩
      refine hK.out _ _ ⟨hHeld1.1.below hb2 hHeld1.2.2, belowThen hHeld1.2.1 hb2, Nat.lt_of_lt_of_le hHeld1.2.2 hb2.size⟩ (fun hHeld2 => ?_)
      clear hK K hHeld1
      refine wpAnyH_ready (rs := [4]) (by kernel_rfl) (by simp) ?_
      refine AllReadyH.cons rfl (fun K hK => ?_) AllReadyH.nil
      go_simp
      refine hK.out _ _ hHeld2 (fun hHeld3 => ?_)
      clear hK K hHeld3
      refine wpAnyH_ready (rs := [5]) (by kernel_rfl) (by simp) ?_
      refine AllReadyH.cons rfl (fun K hK => ?_) AllReadyH.nil
      go_simp
      refine hK.out _ _ hHeld2 (fun hHeld3 => ?_)
      clear hK K hHeld3
      refine wpAnyH_done (by kernel_rfl) ?_ _
      go_wp2_with fail
      go_ret
      exact ⟨rfl, hHeld2.2.1⟩
    · have hf1 : (f == 0) = false := by simpa using hf
      have hf2 : (f != 0) = true := by simpa using hf
      clear hok
      go_wp2_with fail
      go_ret
      exact ⟨rfl, H3.out⟩
end Go.Proofs.Ytbpdbmjfnbpihaa
