/- The reference's validity of values, on: keys, one value, the values in it, all of it. -/
import Derived.Test.YtnoddigkafldfaaDoorVal07
namespace Go.Proofs.YtnoddigkafldfaaDoor
open Go.RowKit

theorem belowThen {a b c : World} (h : Below a.heap.size a b) (k : Below b.heap.size b c) : Below a.heap.size a c := h.trans (k.mono h.size)
theorem belowBox (w : World) (o : Obj) : Below w.heap.size w (w.alloc o) := (Below.refl _ _).alloc (Nat.le_refl _) _
theorem below_drewN' {w wr : World} (h : ∃ m, wr = w.drewN m) : Below w.heap.size w wr := by
  obtain ⟨m, rfl⟩ := h
  exact below_drewN w m

set_option maxRecDepth 100000 in
set_option maxHeartbeats 1600000 in
theorem keys_any (l : List (ByteArray × ValD)) (a : Option Addr) (c : Nat) (w : World) (B N : Nat) (hN : N ≤ 4294967296) (hl : l.length ≤ N) (hB : B ≤ w.heap.size) (h : FieldsAt w B N l a) :
    Calls Tryd.prog 50 #[.slice a l.length c] w (SomeInt w) := by
  have H := Lib.hid h
  clear h
  go_enter Tryd.func50, Tryd.ntmps50
  go_wp2_with fail
  go_loopw [3] (fun i wr => ∃ k : Nat, k ≤ l.length ∧ i = .int .i64 k ∧ Below w.heap.size w wr) (fun i _ => l.length - (intOf i).toNat)
  case atStart => exact ⟨0, by omega, rfl, Below.refl _ _⟩
  case round =>
    obtain ⟨k, hk, rfl, hbel⟩ := hrel
    have HB := Lib.hid hbel
    clear hbel
    by_cases hlt : k < l.length
    · obtain ⟨b, o, rfl, hb, hget⟩ := (H.out.below (HB.out.mono hB)).get (by intro h; simp [h] at hlt)
      obtain ⟨cs1, hs1, h1, _⟩ := hget k hlt
      have HG := Lib.hid hget
      have hsz := HB.out.size
      have e1 := h1.get0' rfl
      clear h1 hget
      go_wp2_with fail
      refine (valid_any _ _ (by omega)).mono ?_
      rintro e w1 ⟨ok, rfl, hb1⟩
      have HB1 := Lib.hid (belowThen HB.out hb1)
      have e2 := (hb1.cell (p := ⟨b, o + k * 14, none⟩) (by show b < wr.heap.size; omega)).trans e1
      have HW := Lib.hid hb1
      clear hb1
      cases ok
      · go_wp2_with fail
        go_ret
        exact ⟨_, rfl, HB1.out⟩
      · by_cases hl4 : 1024 < l[k].1.size
        · go_wp2_with fail
          go_ret
          exact ⟨_, rfl, HB1.out⟩
        · go_wp2_with fail
          go_simp
          go_loopw [4] (fun i wr2 => ∃ j : Nat, j ≤ k ∧ i = .int .i64 j ∧ ∃ m, wr2 = w1.drewN m) (fun i _ => k - (intOf i).toNat)
          case atStart => exact ⟨0, by omega, rfl, 0, rfl⟩
          case round =>
            obtain ⟨j, hj, rfl, m, rfl⟩ := hrel
            by_cases hjk : j < k
            · obtain ⟨cs2, hs2, h2, _⟩ := HG.out j (by omega)
              have e3 := (HW.out.cell (p := ⟨b, o + j * 14, none⟩) (by show b < wr.heap.size; omega)).trans (h2.get0' rfl)
              have hjl : j < l.length := by omega
              clear h2
              go_wp2_with fail
              go_quiet (fail)
              go_wp2_with fail
              · go_ret
                exact ⟨_, rfl, belowThen HB1.out (below_drewN' ⟨_, World.drewN_drewN _ _ _⟩)⟩
              · go_roundw
                case rel => exact ⟨j + 1, by omega, by go_num, _, rfl⟩
                case measure => simp [intOf]; omega
            · go_wp2_with fail
              go_roundw
              case rel => exact ⟨k + 1, by omega, by go_num, belowThen HB1.out (below_drewN _ _)⟩
              case measure => simp [intOf]; omega
    · go_wp2_with fail
      go_ret
      exact ⟨_, rfl, HB.out⟩
end Go.Proofs.YtnoddigkafldfaaDoor
