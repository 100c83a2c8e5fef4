/- The reference's validity of values, to its end: look and Check return, and write nothing that was there. -/
import Derived.Test.YtnoddigkafldfaaDoorVal07d
namespace Go.Proofs.YtnoddigkafldfaaDoor
open Go.RowKit

theorem kids_any (v : ValD) (w : World) (B N : Nat) (cs : List Value) (hN : N ≤ 4294967296) (hB : B ≤ w.heap.size) (hv : ValD.At w B N v cs) :
    Calls Tryd.prog 39 #[.agg cs.toArray] w (SomeVals N (kidsD v) w) := by
  by_cases hk : v.kind = 7
  · exact kids_map v w B N cs hN hB hk hv
  · exact kids_list v w B N cs hB (by simpa using hk) hv
theorem kids_len {w : World} {B N : Nat} {v : ValD} {cs : List Value} (hv : ValD.At w B N v cs) : (kidsD v).length ≤ N := by
  obtain ⟨ya, la, va, yc, lc, vc, hh⟩ := hv.has
  unfold kidsD
  split
  · simpa using hh.own.2.2.2.2.2.2.2.2.2.2
  · exact hh.own.2.2.2.2.2.2.2.2.2.1

def SomePair (w : World) (e : Ending) (w' : World) : Prop := ∃ (x y : Int), e = .returned (.tuple #[.int .i64 x, .int .i64 y]) ∧ Below w.heap.size w w'

set_option maxRecDepth 100000 in
set_option maxHeartbeats 1600000 in
theorem look_any (m : Nat) : ∀ (v : ValD) (w : World) (B N : Nat) (cs : List Value) (depth : Nat) (seen : Int), depth + m = 49 → N ≤ 4294967296 → B ≤ w.heap.size → ValD.At w B N v cs →
    Calls Tryd.prog 27 #[.agg cs.toArray, .int .i64 depth, .int .i64 seen] w (SomePair w) := by
  induction m with
  | zero =>
    intro v w B N cs depth seen hd hN hB hv
    clear hv
    go_enter Tryd.func27, Tryd.ntmps27
    go_wp2_with fail
    go_ret2
    exact ⟨_, _, rfl, belowBox w _⟩
  | succ m ih =>
    intro v w B N cs depth seen hd hN hB hv
    have IH := Lib.hid ih
    have hd' : depth ≤ 48 := by omega
    have HD := Lib.hid hd
    have HV := Lib.hid hv
    have hl := Lib.hid (show (Tryd.prog.info? 38).map (·.size) = some cs.length by rw [hv.len]; exact sizeV)
    have H0 := Lib.hid (show Below w.heap.size w (w.alloc (.cells cs.toArray 38)) from belowBox w _)
    clear ih hv hd
    by_cases hs : 65536 ≤ seen
    · go_enter Tryd.func27, Tryd.ntmps27
      go_wp2_with fail
      go_ret2
      exact ⟨_, _, rfl, H0.out⟩
    go_enter Tryd.func27, Tryd.ntmps27
    go_wp2_with (refine wpList_load_mid rfl 38 _ rfl w.heap.size 0 rfl cs _ (box_at w cs 38).range Tryd.underlying38 rfl hl.out ?_)
    refine (one_any v _ B N cs hN (Nat.le_trans hB H0.out.size) (HV.out.below (H0.out.mono hB))).mono ?_
    rintro e w1 ⟨k1, rfl, hb1⟩
    have hs0 : w.heap.size < (w.alloc (.cells cs.toArray 38)).heap.size := by rw [World.size_alloc]; omega
    have R1 := Lib.hid ((box_at w cs 38).then hb1 hs0)
    have H1 := Lib.hid (belowThen H0.out hb1)
    have hs1 : w.heap.size < w1.heap.size := Nat.lt_of_lt_of_le hs0 hb1.size
    clear hb1 H0 hs0
    by_cases hk1 : k1 = 0
    · subst hk1
      go_wp2_with (refine wpList_load_mid rfl 38 _ rfl w.heap.size 0 rfl cs _ R1.out.range Tryd.underlying38 rfl hl.out ?_)
      refine (kids_any v _ B N cs hN (Nat.le_trans hB H1.out.size) (HV.out.below (H1.out.mono hB))).mono ?_
      rintro e w2 ⟨a, c, rfl, hvs, hb2⟩
      have H2 := Lib.hid (belowThen H1.out hb2)
      have HS := Lib.hid hvs
      have hkl := kids_len HV.out
      clear hb2 hvs R1 H1 hs1
      go_wp2_with fail
      go_simp
      go_loopw [2, 10, 11] (fun s i _ wr => ∃ (x : Int) (k : Nat), k ≤ (kidsD v).length ∧ s = .int .i64 x ∧ i = .int .i64 k ∧ Below w2.heap.size w2 wr) (fun _ i _ _ => (kidsD v).length - (intOf i).toNat)
      case atStart => exact ⟨_, 0, by omega, rfl, rfl, Below.refl _ _⟩
      case round =>
        obtain ⟨x, k, hk, rfl, rfl, hbel⟩ := hrel
        have HB := Lib.hid hbel
        clear hbel
        by_cases hlt : k < (kidsD v).length
        · obtain ⟨b, o, rfl, hb, hget⟩ := HS.out.get (by intro h; simp [h] at hlt)
          obtain ⟨cs1, h1, h2⟩ := hget k hlt
          have HR := Lib.hid (h1.below HB.out hb).range
          have H4 := Lib.hid (h2.below HB.out)
          have hl1 := Lib.hid (show (Tryd.prog.info? 38).map (·.size) = some cs1.length by rw [h2.len]; exact sizeV)
          clear h1 h2 hget
          go_wp2_with (refine wpList_load_mid rfl 38 _ rfl b (o + k * 13) rfl cs1 _ HR.out Tryd.underlying38 rfl hl1.out ?_)
          refine (IH.out _ _ w2.heap.size N _ (depth + 1) x (by have := HD.out; omega) hN HB.out.size H4.out).mono ?_
          rintro e1 w3 ⟨y, z, rfl, hb3⟩
          have HB3 := Lib.hid (belowThen HB.out hb3)
          clear hb3
          by_cases hz : z = 0
          · subst hz
            go_wp2_with fail
            go_roundw
            case rel => exact ⟨y, k + 1, by omega, rfl, by go_num, HB3.out⟩
            case measure => simp [intOf]; omega
          · have hz' : (z == 0) = false := by simpa using hz
            clear hz
            go_wp2_with fail
            go_ret2
            exact ⟨_, _, rfl, belowThen H2.out HB3.out⟩
        · go_wp2_with fail
          go_ret2
          exact ⟨_, _, rfl, belowThen H2.out HB.out⟩
    · have hk1' : (k1 == 0) = false := by simpa using hk1
      clear hk1
      go_wp2_with fail
      go_ret2
      exact ⟨_, _, rfl, H1.out⟩

theorem check07_any (v : ValD) (w : World) (B N : Nat) (cs : List Value) (hN : N ≤ 4294967296) (hB : B ≤ w.heap.size) (hv : ValD.At w B N v cs) :
    Calls Tryd.prog 20 #[.agg cs.toArray] w (SomeInt w) := by
  have HV := Lib.hid hv
  have hl := Lib.hid (show (Tryd.prog.info? 38).map (·.size) = some cs.length by rw [hv.len]; exact sizeV)
  have H0 := Lib.hid (show Below w.heap.size w (w.alloc (.cells cs.toArray 38)) from belowBox w _)
  clear hv
  go_enter Tryd.func20, Tryd.ntmps20
  go_wp2_with (refine wpList_load_mid rfl 38 _ rfl w.heap.size 0 rfl cs _ (box_at w cs 38).range Tryd.underlying38 rfl hl.out ?_)
  refine (look_any 48 v _ B N cs 1 0 (by omega) hN (Nat.le_trans hB H0.out.size) (HV.out.below (H0.out.mono hB))).mono ?_
  rintro e w1 ⟨x, y, rfl, hb1⟩
  have H1 := Lib.hid (belowThen H0.out hb1)
  clear hb1
  go_wp2_with fail
  go_ret
  exact ⟨_, rfl, H1.out⟩
end Go.Proofs.YtnoddigkafldfaaDoor
