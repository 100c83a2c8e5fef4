/- Keys: datakitref07.Keys and value.keys find the same first error. -/
import Derived.Test.YtfegnmbdgdjkgaaGreatGH
import Derived.Test.YtfegnmbdgdjkgaaGreatGF
import Derived.Test.YtfegnmbdgdjkgaaGreatGE
namespace Go.Proofs.YtfegnmbdgdjkgaaGreat
open Go.RowKit

def IntB (k : Int) (w : World) (e : Ending) (w' : World) : Prop := e = .returned (.int .i64 k) ∧ Below w.heap.size w w'
def fstK (l : List (ByteArray × ValD)) : List ByteArray := l.map (·.1)
theorem fstK_len (l : List (ByteArray × ValD)) : (fstK l).length = l.length := by simp [fstK]
theorem fstK_get {l : List (ByteArray × ValD)} {k : Nat} (h : k < l.length) (h2 : k < (fstK l).length) : (fstK l)[k] = l[k].1 := by simp [fstK]
theorem size_bound {l : List (ByteArray × ValD)} {N : Nat} {w : World} {B : Nat} {a : Option Addr} (h : FieldsAt w B N l a) : ∀ k (hk : k < l.length), l[k].1.size ≤ N := fun k hk => by
  obtain ⟨b, o, _, _, hget⟩ := h.get (by intro e; subst e; simp at hk)
  obtain ⟨_, h1, _⟩ := hget k hk
  exact h1
theorem toList_data_eq {a b : ByteArray} : a.toList = b.toList ↔ a.data.toList = b.data.toList := by rw [ByteArray.toList_eq, ByteArray.toList_eq]

set_option maxRecDepth 100000 in
set_option maxHeartbeats 1600000 in
theorem keys07_ex (l : List (ByteArray × ValD)) (a : Option Addr) (c : Nat) (w : World) (B N : Nat) (hN : N ≤ 4294967296) (hl : l.length ≤ N) (hB : B ≤ w.heap.size) (h : FieldsAt w B N l a) :
    Calls Tryz.prog 84 #[.slice a l.length c] w (IntB (keysE [] (fstK l)) w) := by
  have H := Lib.hid h
  have hfl := fstK_len l
  clear h
  go_enter Tryz.func84, Tryz.ntmps84
  go_wp2_with fail
  go_loopw [3] (fun i wr => ∃ k : Nat, k ≤ l.length ∧ i = .int .i64 k ∧ Hid (keysE [] (fstK l) = keysE (before (fstK l) k) ((fstK l).drop k)) ∧ Hid (Below w.heap.size w wr)) (fun i _ => l.length - (intOf i).toNat)
  case atStart => exact ⟨0, by omega, rfl, Lib.hid rfl, Lib.hid (Below.refl _ _)⟩
  case round =>
    obtain ⟨k, hk, rfl, HE, HB⟩ := hrel
    by_cases hlt : k < l.length
    · obtain ⟨b, o, rfl, hb, hget⟩ := (H.out.below (HB.out.mono hB)).get (by intro h; simp [h] at hlt)
      obtain ⟨cs1, hs1, h1, _⟩ := hget k hlt
      have HG := Lib.hid hget
      have hsz := HB.out.size
      have HK := Lib.hid (fstK_get hlt (by omega))
      have hlt2 : k < (fstK l).length := by omega
      obtain ⟨ky, hky⟩ : ∃ ky, ky = l[k].1 := ⟨_, rfl⟩
      rw [← hky] at h1 hs1
      have HKY := Lib.hid hky
      have e1 := h1.get0' (v := .string ky) rfl
      clear h1 hget hky
      go_wp2_with fail
      refine (valid03_ex ky _ (by omega)).mono ?_
      rintro e w1 ⟨rfl, hb1⟩
      have HB1 := Lib.hid (belowThen HB.out hb1)
      have e2 := (hb1.cell (p := ⟨b, o + k * 14, none⟩) (by show b < wr.heap.size; omega)).trans e1
      have HW := Lib.hid hb1
      clear hb1
      cases hok : validS ky
      · have HX := Lib.hid (show keysE [] (fstK l) = 5 by rw [HE.out]; exact keysE_5 hlt2 (by rw [HK.out, ← HKY.out]; exact hok))
        clear hok
        go_wp2_with fail
        go_ret
        exact ⟨ret_int (by rw [HX.out]), HB1.out⟩
      · have HV := Lib.hid hok
        clear hok
        by_cases hl4 : 1024 < ky.size
        · have HX := Lib.hid (show keysE [] (fstK l) = 10 by rw [HE.out]; exact keysE_10 hlt2 (by rw [HK.out, ← HKY.out]; exact HV.out) (by rw [HK.out, ← HKY.out]; exact hl4))
          go_wp2_with fail
          go_ret
          exact ⟨ret_int (by rw [HX.out]), HB1.out⟩
        · go_wp2_with fail
          go_simp
          go_loopw [4] (fun i wr2 => ∃ j : Nat, j ≤ k ∧ i = .int .i64 j ∧ Hid (∀ q (hq : q < l.length), q < j → ¬ l[q].1.toList = ky.toList) ∧ ∃ m, wr2 = w1.drewN m) (fun i _ => k - (intOf i).toNat)
          case atStart => exact ⟨0, by omega, rfl, Lib.hid (by omega), 0, rfl⟩
          case round =>
            obtain ⟨j, hj, rfl, HQ, m, rfl⟩ := hrel
            by_cases hjk : j < k
            · obtain ⟨cs2, hs2, h2, _⟩ := HG.out j (by omega)
              have hjl : j < l.length := by omega
              obtain ⟨kz, hkz⟩ : ∃ kz, kz = l[j].1 := ⟨_, rfl⟩
              rw [← hkz] at h2 hs2
              have HKZ := Lib.hid hkz
              have e3 := (HW.out.cell (p := ⟨b, o + j * 14, none⟩) (by show b < wr.heap.size; omega)).trans (h2.get0' (v := .string kz) rfl)
              clear h2 hkz
              by_cases hq : kz.toList = ky.toList
              · have q1 : (kz.toList == ky.toList) = true := by simpa using hq
                have q2 : (ky.toList == kz.toList) = true := by simpa using hq.symm
                have HX := Lib.hid (show keysE [] (fstK l) = 8 by
                  rw [HE.out]
                  refine keysE_8 hlt2 (by rw [HK.out, ← HKY.out]; exact HV.out) (by rw [HK.out, ← HKY.out]; omega) ?_
                  rw [mem_before]
                  exact ⟨j, by omega, hjk, by rw [fstK_get hjl, HK.out, ← HKY.out, ← HKZ.out]; exact toList_data_eq.1 hq⟩)
                clear hq
                go_wp2_with fail
                go_quiet (fail)
                go_wp2_with fail
                go_ret
                exact ⟨ret_int (by rw [HX.out]), belowThen HB1.out (below_drewN' ⟨_, World.drewN_drewN _ _ _⟩)⟩
              · have q1 : (kz.toList == ky.toList) = false := by simpa using hq
                have q2 : (ky.toList == kz.toList) = false := by simpa using fun e => hq e.symm
                have HQ2 := Lib.hid (show ∀ q (hq : q < l.length), q < j + 1 → ¬ l[q].1.toList = ky.toList from fun q hq1 hq2 => by
                  by_cases e : q = j
                  · subst e; rw [← HKZ.out]; exact hq
                  · exact HQ.out q hq1 (by omega))
                clear hq
                go_wp2_with fail
                go_quiet (fail)
                go_wp2_with fail
                go_roundw
                case rel => exact ⟨j + 1, by omega, by go_num, HQ2, _, rfl⟩
                case measure => simp [intOf]; omega
            · have HE2 := Lib.hid (show keysE [] (fstK l) = keysE (before (fstK l) (k + 1)) ((fstK l).drop (k + 1)) by
                rw [HE.out]
                refine keysE_go hlt2 (by rw [HK.out, ← HKY.out]; exact HV.out) (by rw [HK.out, ← HKY.out]; omega) ?_
                rw [mem_before]
                rintro ⟨q, hq1, hq2, hq3⟩
                rw [fstK_get (by omega), HK.out, ← HKY.out] at hq3
                exact HQ.out q (by omega) (by omega) (toList_data_eq.2 hq3))
              go_wp2_with fail
              go_roundw
              case rel => exact ⟨k + 1, by omega, by go_num, HE2, Lib.hid (belowThen HB1.out (below_drewN _ _))⟩
              case measure => simp [intOf]; omega
    · obtain rfl : k = l.length := by omega
      have HX := Lib.hid (show keysE [] (fstK l) = 0 by rw [HE.out, ← fstK_len l]; exact keysE_end)
      go_wp2_with fail
      go_ret
      exact ⟨ret_int (by rw [HX.out]), HB.out⟩

/-! ### The program's -/
def keyC (s : ByteArray) : Int := if validS s = false then 5 else if 1024 < s.size then 10 else 0
theorem zeroBool (w : World) : (zeroValue 4).run Tryz.prog w = .ok (.bool false) w := by kernel_rfl
end Go.Proofs.YtfegnmbdgdjkgaaGreat
