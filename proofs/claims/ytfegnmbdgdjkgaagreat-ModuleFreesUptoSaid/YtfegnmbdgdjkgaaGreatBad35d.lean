/- The reference's Bad (datakitref35): below 0 just where the string is valid. -/
import Derived.Test.YtfegnmbdgdjkgaaGreatUtf8D
import Derived.WalkKit
import Derived.WalkSpells
import Derived.WalkLawsBesides
import Derived.LoopTactic
import Derived.BigQuiet
import Derived.Deep.QuietTactic
import Derived.Lib.Hide
namespace Go.Proofs.YtfegnmbdgdjkgaaGreat
open Go.RowKit

def BadInt (s : ByteArray) (w : World) (e : Ending) (w' : World) : Prop := ∃ k : Int, e = .returned (.int .i64 k) ∧ (k < 0 ↔ validS s = true) ∧ ∃ m, w' = w.drewN m
theorem bad_at {s : ByteArray} {w : World} {p : Nat} {m : Nat} (hp : p < s.size) (hr : okFrom s (s.size - p) p = validS s) (hc : charAt s p = 0) : BadInt s w (.returned (.int .i64 (p : Int))) (w.drewN m) := by
  refine ⟨p, rfl, ⟨fun h => by omega, fun h => ?_⟩, m, rfl⟩
  rw [← hr, okFrom_bad s p hp hc] at h
  cases h

set_option maxRecDepth 100000 in
set_option maxHeartbeats 3200000 in
theorem bad35 (s : ByteArray) (w : World) (hs : s.size ≤ 1099511627776) : Calls Tryz.prog 38 #[.string s] w (BadInt s w) := by
  go_enter Tryz.func38, Tryz.ntmps38
  go_wp2_with fail
  go_loopw [3] (fun i wr => ∃ p : Nat, p ≤ s.size ∧ i = .int .i64 p ∧ okFrom s (s.size - p) p = validS s ∧ ∃ m, wr = w.drewN m) (fun i _ => s.size - (intOf i).toNat)
  case atStart => exact ⟨0, by omega, rfl, rfl, 0, rfl⟩
  case round =>
    obtain ⟨p, hp, rfl, hr, m, rfl⟩ := hrel
    have HR := Lib.hid hr
    clear hr
    by_cases hlt : p < s.size
    · have hb0 := byteAt_eq s p hlt
      obtain ⟨hb1, hb2⟩ := byteAt_range s p
      have hcls : byteAt s p < 128 ∨ (194 ≤ byteAt s p ∧ byteAt s p < 224) ∨ (224 ≤ byteAt s p ∧ byteAt s p < 240) ∨ (240 ≤ byteAt s p ∧ byteAt s p < 245) ∨ (128 ≤ byteAt s p ∧ byteAt s p < 194) ∨ 245 ≤ byteAt s p := by omega
      rcases hcls with h1 | ⟨h1, h2⟩ | ⟨h1, h2⟩ | ⟨h1, h2⟩ | ⟨h1, h2⟩ | h1
      · have hl : lead (byteAt s p) = (1, 0, byteAt s p) := lead1 h1
        have HL := Lib.hid hl
        clear hl
        go_wp2_with fail
        go_quiet (fail)
        go_wp2_with fail
        go_simp
        go_loopw [6, 7] (fun c i wr => ∃ (d : Int) (k : Nat), k + 1 ≤ 1 ∧ i = .int .i64 ((k : Int) + 1) ∧ c = .int .i64 d ∧ 0 ≤ d ∧ ((k = 0 ∧ d ≤ 127) ∨ (k = 1 ∧ d ≤ 8191) ∨ (k = 2 ∧ d ≤ 524287) ∨ (k = 3 ∧ d ≤ 33554431)) ∧ conts s p (byteAt s p) k = some d ∧ ∃ q, wr = w.drewN q) (fun _ i _ => 1 - (intOf i).toNat)
        case atStart => exact ⟨_, 0, by omega, by simp, rfl, by omega, by omega, rfl, _, rfl⟩
        case round =>
          obtain ⟨d, k, hk, rfl, rfl, hd0, hd1, hc, q, rfl⟩ := hrel
          have HC := Lib.hid hc
          clear hc
          obtain rfl : k = 0 := by omega
          have hd9 : d ≤ 33554431 := by omega
          by_cases ho : d < 0 ∨ 1114111 < d ∨ (55296 ≤ d ∧ d < 57344)
          · have HX := Lib.hid (show charAt s p = 0 by rw [charAt_of HL.out (by omega) (by omega) HC.out, if_pos (outside_yes ho)])
            rcases ho with ho | ho | ⟨ho, ho2⟩
            all_goals
              go_wp2_with fail
              all_goals
                go_ret
                exact bad_at hlt HR.out HX.out
          · have HX := Lib.hid (show charAt s p = 1 by rw [charAt_of HL.out (by omega) (by omega) HC.out, if_neg (by rw [outside_no (by omega) (by omega) (by omega)]; simp)])
            go_wp2_with fail
            all_goals
              go_roundw
              case rel => exact ⟨p + 1, by omega, by go_num, by rw [← HR.out]; exact (okFrom_step s p 1 hlt HX.out (by omega)).symm, _, rfl⟩
              case measure => simp [intOf]; omega
      · have hl : lead (byteAt s p) = (2, 128, byteAt s p - 192) := lead2 ⟨h1, h2⟩
        have HL := Lib.hid hl
        clear hl
        by_cases hsz : p + 2 ≤ s.size
        · go_wp2_with fail
          go_quiet (fail)
          go_wp2_with fail
          go_simp
          go_loopw [6, 7] (fun c i wr => ∃ (d : Int) (k : Nat), k + 1 ≤ 2 ∧ i = .int .i64 ((k : Int) + 1) ∧ c = .int .i64 d ∧ 0 ≤ d ∧ ((k = 0 ∧ d ≤ 127) ∨ (k = 1 ∧ d ≤ 8191) ∨ (k = 2 ∧ d ≤ 524287) ∨ (k = 3 ∧ d ≤ 33554431)) ∧ conts s p (byteAt s p - 192) k = some d ∧ ∃ q, wr = w.drewN q) (fun _ i _ => 2 - (intOf i).toNat)
          case atStart => exact ⟨_, 0, by omega, by simp, rfl, by omega, by omega, rfl, _, rfl⟩
          case round =>
            obtain ⟨d, k, hk, rfl, rfl, hd0, hd1, hc, q, rfl⟩ := hrel
            have HC := Lib.hid hc
            clear hc
            by_cases hkn : k + 1 < 2
            · have hlt2 : p + (k + 1) < s.size := by omega
              have hb3 := byteAt_eq s (p + (k + 1)) hlt2
              obtain ⟨hb4, hb5⟩ := byteAt_range s (p + (k + 1))
              by_cases hc1 : byteAt s (p + (k + 1)) < 128
              · have HX := Lib.hid (charAt_cont HL.out (by omega) (conts_no HC.out (.inl hc1)))
                go_wp2_with fail
                go_ret
                exact bad_at hlt HR.out HX.out
              · by_cases hc2 : 192 ≤ byteAt s (p + (k + 1))
                · have HX := Lib.hid (charAt_cont HL.out (by omega) (conts_no HC.out (.inr hc2)))
                  go_wp2_with fail
                  go_ret
                  exact bad_at hlt HR.out HX.out
                · have HY := Lib.hid (conts_yes HC.out (by omega) (by omega))
                  go_wp2_with fail
                  go_roundw
                  case rel => exact ⟨_, k + 1, by omega, by go_num, rfl, by omega, by omega, HY.out, _, rfl⟩
                  case measure => simp [intOf]; omega
            · obtain rfl : k = 1 := by omega
              clear hkn
              have hd9 : d ≤ 33554431 := by omega
              by_cases ho : d < 128 ∨ 1114111 < d ∨ (55296 ≤ d ∧ d < 57344)
              · have HX := Lib.hid (show charAt s p = 0 by rw [charAt_of HL.out (by omega) (by omega) HC.out, if_pos (outside_yes ho)])
                rcases ho with ho | ho | ⟨ho, ho2⟩
                all_goals
                  go_wp2_with fail
                  all_goals
                    go_ret
                    exact bad_at hlt HR.out HX.out
              · have HX := Lib.hid (show charAt s p = 2 by rw [charAt_of HL.out (by omega) (by omega) HC.out, if_neg (by rw [outside_no (by omega) (by omega) (by omega)]; simp)])
                go_wp2_with fail
                all_goals
                  go_roundw
                  case rel => exact ⟨p + 2, by omega, by go_num, by rw [← HR.out]; exact (okFrom_step s p 2 hlt HX.out (by omega)).symm, _, rfl⟩
                  case measure => simp [intOf]; omega
        · have HX := Lib.hid (charAt_short HL.out (by omega))
          go_wp2_with fail
          go_quiet (fail)
          go_wp2_with fail
          go_ret
          exact bad_at hlt HR.out HX.out
      · have hl : lead (byteAt s p) = (3, 2048, byteAt s p - 224) := lead3 ⟨h1, h2⟩
        have HL := Lib.hid hl
        clear hl
        by_cases hsz : p + 3 ≤ s.size
        · go_wp2_with fail
          go_quiet (fail)
          go_wp2_with fail
          go_simp
          go_loopw [6, 7] (fun c i wr => ∃ (d : Int) (k : Nat), k + 1 ≤ 3 ∧ i = .int .i64 ((k : Int) + 1) ∧ c = .int .i64 d ∧ 0 ≤ d ∧ ((k = 0 ∧ d ≤ 127) ∨ (k = 1 ∧ d ≤ 8191) ∨ (k = 2 ∧ d ≤ 524287) ∨ (k = 3 ∧ d ≤ 33554431)) ∧ conts s p (byteAt s p - 224) k = some d ∧ ∃ q, wr = w.drewN q) (fun _ i _ => 3 - (intOf i).toNat)
          case atStart => exact ⟨_, 0, by omega, by simp, rfl, by omega, by omega, rfl, _, rfl⟩
          case round =>
            obtain ⟨d, k, hk, rfl, rfl, hd0, hd1, hc, q, rfl⟩ := hrel
            have HC := Lib.hid hc
            clear hc
            by_cases hkn : k + 1 < 3
            · have hlt2 : p + (k + 1) < s.size := by omega
              have hb3 := byteAt_eq s (p + (k + 1)) hlt2
              obtain ⟨hb4, hb5⟩ := byteAt_range s (p + (k + 1))
              by_cases hc1 : byteAt s (p + (k + 1)) < 128
              · have HX := Lib.hid (charAt_cont HL.out (by omega) (conts_no HC.out (.inl hc1)))
                go_wp2_with fail
                go_ret
                exact bad_at hlt HR.out HX.out
              · by_cases hc2 : 192 ≤ byteAt s (p + (k + 1))
                · have HX := Lib.hid (charAt_cont HL.out (by omega) (conts_no HC.out (.inr hc2)))
                  go_wp2_with fail
                  go_ret
                  exact bad_at hlt HR.out HX.out
                · have HY := Lib.hid (conts_yes HC.out (by omega) (by omega))
                  go_wp2_with fail
                  go_roundw
                  case rel => exact ⟨_, k + 1, by omega, by go_num, rfl, by omega, by omega, HY.out, _, rfl⟩
                  case measure => simp [intOf]; omega
            · obtain rfl : k = 2 := by omega
              clear hkn
              have hd9 : d ≤ 33554431 := by omega
              by_cases ho : d < 2048 ∨ 1114111 < d ∨ (55296 ≤ d ∧ d < 57344)
              · have HX := Lib.hid (show charAt s p = 0 by rw [charAt_of HL.out (by omega) (by omega) HC.out, if_pos (outside_yes ho)])
                rcases ho with ho | ho | ⟨ho, ho2⟩
                all_goals
                  go_wp2_with fail
                  all_goals
                    go_ret
                    exact bad_at hlt HR.out HX.out
              · have HX := Lib.hid (show charAt s p = 3 by rw [charAt_of HL.out (by omega) (by omega) HC.out, if_neg (by rw [outside_no (by omega) (by omega) (by omega)]; simp)])
                go_wp2_with fail
                all_goals
                  go_roundw
                  case rel => exact ⟨p + 3, by omega, by go_num, by rw [← HR.out]; exact (okFrom_step s p 3 hlt HX.out (by omega)).symm, _, rfl⟩
                  case measure => simp [intOf]; omega
        · have HX := Lib.hid (charAt_short HL.out (by omega))
          go_wp2_with fail
          go_quiet (fail)
          go_wp2_with fail
          go_ret
          exact bad_at hlt HR.out HX.out
      · have hl : lead (byteAt s p) = (4, 65536, byteAt s p - 240) := lead4 ⟨h1, h2⟩
        have HL := Lib.hid hl
        clear hl
        by_cases hsz : p + 4 ≤ s.size
        · go_wp2_with fail
          go_quiet (fail)
          go_wp2_with fail
          go_simp
          go_loopw [6, 7] (fun c i wr => ∃ (d : Int) (k : Nat), k + 1 ≤ 4 ∧ i = .int .i64 ((k : Int) + 1) ∧ c = .int .i64 d ∧ 0 ≤ d ∧ ((k = 0 ∧ d ≤ 127) ∨ (k = 1 ∧ d ≤ 8191) ∨ (k = 2 ∧ d ≤ 524287) ∨ (k = 3 ∧ d ≤ 33554431)) ∧ conts s p (byteAt s p - 240) k = some d ∧ ∃ q, wr = w.drewN q) (fun _ i _ => 4 - (intOf i).toNat)
          case atStart => exact ⟨_, 0, by omega, by simp, rfl, by omega, by omega, rfl, _, rfl⟩
          case round =>
            obtain ⟨d, k, hk, rfl, rfl, hd0, hd1, hc, q, rfl⟩ := hrel
            have HC := Lib.hid hc
            clear hc
            by_cases hkn : k + 1 < 4
            · have hlt2 : p + (k + 1) < s.size := by omega
              have hb3 := byteAt_eq s (p + (k + 1)) hlt2
              obtain ⟨hb4, hb5⟩ := byteAt_range s (p + (k + 1))
              by_cases hc1 : byteAt s (p + (k + 1)) < 128
              · have HX := Lib.hid (charAt_cont HL.out (by omega) (conts_no HC.out (.inl hc1)))
                go_wp2_with fail
                go_ret
                exact bad_at hlt HR.out HX.out
              · by_cases hc2 : 192 ≤ byteAt s (p + (k + 1))
                · have HX := Lib.hid (charAt_cont HL.out (by omega) (conts_no HC.out (.inr hc2)))
                  go_wp2_with fail
                  go_ret
                  exact bad_at hlt HR.out HX.out
                · have HY := Lib.hid (conts_yes HC.out (by omega) (by omega))
                  go_wp2_with fail
                  go_roundw
                  case rel => exact ⟨_, k + 1, by omega, by go_num, rfl, by omega, by omega, HY.out, _, rfl⟩
                  case measure => simp [intOf]; omega
            · obtain rfl : k = 3 := by omega
              clear hkn
              have hd9 : d ≤ 33554431 := by omega
              by_cases ho : d < 65536 ∨ 1114111 < d ∨ (55296 ≤ d ∧ d < 57344)
              · have HX := Lib.hid (show charAt s p = 0 by rw [charAt_of HL.out (by omega) (by omega) HC.out, if_pos (outside_yes ho)])
                rcases ho with ho | ho | ⟨ho, ho2⟩
                all_goals
                  go_wp2_with fail
                  all_goals
                    go_ret
                    exact bad_at hlt HR.out HX.out
              · have HX := Lib.hid (show charAt s p = 4 by rw [charAt_of HL.out (by omega) (by omega) HC.out, if_neg (by rw [outside_no (by omega) (by omega) (by omega)]; simp)])
                go_wp2_with fail
                all_goals
                  go_roundw
                  case rel => exact ⟨p + 4, by omega, by go_num, by rw [← HR.out]; exact (okFrom_step s p 4 hlt HX.out (by omega)).symm, _, rfl⟩
                  case measure => simp [intOf]; omega
        · have HX := Lib.hid (charAt_short HL.out (by omega))
          go_wp2_with fail
          go_quiet (fail)
          go_wp2_with fail
          go_ret
          exact bad_at hlt HR.out HX.out
      · have HX := Lib.hid (charAt_0 (.inl ⟨h1, h2⟩))
        go_wp2_with fail
        go_quiet (fail)
        go_wp2_with fail
        go_ret
        exact bad_at hlt HR.out HX.out
      · have HX := Lib.hid (charAt_0 (.inr h1))
        go_wp2_with fail
        go_quiet (fail)
        go_wp2_with fail
        go_ret
        exact bad_at hlt HR.out HX.out
    · have HE := Lib.hid (show validS s = true by rw [← HR.out]; exact okFrom_end s p (by omega))
      go_wp2_with fail
      go_ret
      exact ⟨-1, rfl, ⟨fun _ => HE.out, fun _ => by omega⟩, m, rfl⟩
end Go.Proofs.YtfegnmbdgdjkgaaGreat
