/- The program's UTF-8 (utf): head, scalar, width, Decode, Len, Valid: what they compute. -/
import Derived.Test.YtfegnmbdgdjkgaaGreatDoorU03x
namespace Go.Proofs.YtfegnmbdgdjkgaaGreatDoor
open Go.RowKit

theorem and192_nat : ∀ a : Fin 256, a.val &&& 192 = a.val / 64 * 64 := by decide +kernel
theorem u8_and192 (x : Int) (h₀ : 0 ≤ x) (h₁ : x < 256) : bits .and .u8 x 192 = x / 64 * 64 := by
  obtain ⟨a, rfl⟩ := Int.eq_ofNat_of_zero_le h₀
  have ha : a < 256 := by omega
  have := (bits_nat .u8 8 (by decide) wraps_u8 a 192 ha (by decide)).1
  rw [show ((192 : Nat) : Int) = 192 from rfl] at this
  rw [this, and192_nat ⟨a, ha⟩]
  simp
def HedR (b : Int) (w : World) (e : Ending) (w' : World) : Prop := e = .returned (.tuple #[.int .i64 ((leadW b).1 : Int), .int .i64 (leadW b).2.2]) ∧ w = w'
theorem head_ex (b : Int) (w : World) (h0 : 0 ≤ b) (h1 : b < 256) : Calls Tryz.prog 143 #[.int .u8 b] w (HedR b w) := by
  have hcase : b < 128 ∨ (192 ≤ b ∧ b < 224) ∨ (224 ≤ b ∧ b < 240) ∨ (240 ≤ b ∧ b < 248) ∨ (128 ≤ b ∧ b < 192) ∨ 248 ≤ b := by omega
  rcases hcase with h | ⟨h, h2⟩ | ⟨h, h2⟩ | ⟨h, h2⟩ | ⟨h, h2⟩ | h
  · have HX := Lib.hid (leadW1 h)
    go_enter Tryz.func143, Tryz.ntmps143
    go_wp2
    go_ret2
    exact ⟨by rw [HX.out]; rfl, rfl⟩
  · have HX := Lib.hid (show leadW b = (2, 128, b % 32) by rw [leadW2 ⟨h, h2⟩]; congr 2; omega)
    have f := u8_and31 b h0 h1
    go_enter Tryz.func143, Tryz.ntmps143
    go_wp2
    go_ret2
    exact ⟨by rw [HX.out]; rfl, rfl⟩
  · have HX := Lib.hid (show leadW b = (3, 2048, b % 16) by rw [leadW3 ⟨h, h2⟩]; congr 2; omega)
    have f := u8_and15 b h0 h1
    go_enter Tryz.func143, Tryz.ntmps143
    go_wp2
    go_ret2
    exact ⟨by rw [HX.out]; rfl, rfl⟩
  · have HX := Lib.hid (show leadW b = (4, 65536, b % 8) by rw [leadW4 ⟨h, h2⟩]; congr 2; omega)
    have f := u8_and7 b h0 h1
    go_enter Tryz.func143, Tryz.ntmps143
    go_wp2
    go_ret2
    exact ⟨by rw [HX.out]; rfl, rfl⟩
  · have HX := Lib.hid (leadW0 (.inl ⟨h, h2⟩))
    go_enter Tryz.func143, Tryz.ntmps143
    go_wp2
    go_ret2
    exact ⟨by rw [HX.out]; rfl, rfl⟩
  · have HX := Lib.hid (leadW0 (.inr h))
    go_enter Tryz.func143, Tryz.ntmps143
    go_wp2
    go_ret2
    exact ⟨by rw [HX.out]; rfl, rfl⟩
theorem scalar_ex (r : Int) (w : World) : Calls Tryz.prog 144 #[.int .i64 r] w fun e w' => e = .returned (.bool (charB r)) ∧ w = w' := by
  by_cases h0 : 0 ≤ r <;> by_cases h1 : r ≤ 1114111 <;> by_cases h2 : r < 55296 <;> by_cases h3 : 57343 < r <;>
  · have hc : charB r = (decide (0 ≤ r) && decide (r ≤ 1114111) && (decide (r < 55296) || decide (57343 < r))) := rfl
    have HC := Lib.hid hc
    clear hc
    go_enter Tryz.func144, Tryz.ntmps144
    go_wp2
    go_ret
    refine ⟨ret_bool ?_, rfl⟩
    rw [HC.out]
    simp [*]
def widthD (r : Int) : Int := if r < 128 then 1 else if r < 2048 then 2 else if r < 65536 then 3 else 4
theorem width_ex (r : Int) (w : World) : Calls Tryz.prog 145 #[.int .i64 r] w fun e w' => e = .returned (.int .i64 (widthD r)) ∧ w = w' := by
  have hcase : r < 128 ∨ (¬ r < 128 ∧ r < 2048) ∨ (¬ r < 128 ∧ ¬ r < 2048 ∧ r < 65536) ∨ (¬ r < 128 ∧ ¬ r < 2048 ∧ ¬ r < 65536) := by omega
  have HW := Lib.hid (show widthD r = if r < 128 then 1 else if r < 2048 then 2 else if r < 65536 then 3 else 4 from rfl)
  rcases hcase with h1 | ⟨h1, h2⟩ | ⟨h1, h2, h3⟩ | ⟨h1, h2, h3⟩
  · go_enter Tryz.func145, Tryz.ntmps145
    go_wp2
    go_ret
    exact ⟨ret_int (by rw [HW.out, if_pos (by omega)]), rfl⟩
  · go_enter Tryz.func145, Tryz.ntmps145
    go_wp2
    go_ret
    exact ⟨ret_int (by rw [HW.out, if_neg (by omega), if_pos (by omega)]), rfl⟩
  · go_enter Tryz.func145, Tryz.ntmps145
    go_wp2
    go_ret
    exact ⟨ret_int (by rw [HW.out, if_neg (by omega), if_neg (by omega), if_pos (by omega)]), rfl⟩
  · go_enter Tryz.func145, Tryz.ntmps145
    go_wp2
    go_ret
    exact ⟨ret_int (by rw [HW.out, if_neg (by omega), if_neg (by omega), if_neg (by omega)]), rfl⟩
/-- What the least number of a length says of the length. -/
theorem fits_width {n : Nat} {least d : Int} (h0 : 0 ≤ d) (h : (n = 1 ∧ least = 0 ∧ d < 128) ∨ (n = 2 ∧ least = 128 ∧ d < 2048) ∨ (n = 3 ∧ least = 2048 ∧ d < 65536) ∨ (n = 4 ∧ least = 65536)) : (charB d = true ∧ widthD d = n) ↔ outside least d = false := by
  constructor
  · rintro ⟨h1, h2⟩
    have h3 := (charB_iff d).1 h1
    obtain ⟨k1, k2, k3⟩ := h3
    refine outside_no ?_ (by omega) (by omega)
    unfold widthD at h2
    split at h2
    · omega
    · split at h2
      · omega
      · split at h2 <;> omega
  · intro h1
    have h2 : ¬ (d < least ∨ 1114111 < d ∨ (55296 ≤ d ∧ d < 57344)) := fun h => by rw [outside_yes h] at h1; cases h1
    refine ⟨(charB_iff d).2 ⟨h0, by omega, by omega⟩, ?_⟩
    unfold widthD
    split
    · omega
    · split
      · omega
      · split <;> omega
def UdcR (s : ByteArray) (p : Nat) (w : World) (e : Ending) (w' : World) : Prop := ∃ r : Int, e = .returned (.tuple #[.int .i64 r, .int .i64 (charAt s p)]) ∧ w = w'
theorem head_n (b : Int) (n : Nat) (l c : Int) (h : leadW b = (n, l, c)) (w : World) (h0 : 0 ≤ b) (h1 : b < 256) : Calls Tryz.prog 143 #[.int .u8 b] w (fun e w' => e = .returned (.tuple #[.int .i64 (n : Int), .int .i64 c]) ∧ w = w') :=
  (head_ex b w h0 h1).mono fun e w' hh => ⟨by rw [hh.1, h], hh.2⟩
set_option maxRecDepth 100000 in
set_option maxHeartbeats 3200000 in
theorem udec_ex (s : ByteArray) (p : Nat) (w : World) (hs : s.size ≤ maxLen) (hp : p < s.size) : Calls Tryz.prog 131 #[.string s, .int .i64 p] w (UdcR s p w) := by
  unfold maxLen at hs
  have hb0 := byteAt_eq s p hp
  obtain ⟨hb1, hb2⟩ := byteAt_range s p
  have hcls : (192 ≤ byteAt s p ∧ byteAt s p < 224) ∨ (224 ≤ byteAt s p ∧ byteAt s p < 240) ∨ (240 ≤ byteAt s p ∧ byteAt s p < 248) ∨ (byteAt s p < 128) ∨ ((128 ≤ byteAt s p ∧ byteAt s p < 192) ∨ 248 ≤ byteAt s p) := by omega
  rcases hcls with ⟨h21, h22⟩ | ⟨h21, h22⟩ | ⟨h21, h22⟩ | h21 | h21
  · have hl : leadW (byteAt s p) = (2, 128, byteAt s p - 192) := leadW2 ⟨h21, h22⟩
    have HL := Lib.hid hl
    clear hl
    by_cases hsz : p + 2 ≤ s.size
    · have hsz' : ¬ (s.size : Int) - (p : Int) < 2 := by omega
      go_enter Tryz.func131, Tryz.ntmps131
      go_wp2_with (go_at_call 143; refine (head_n _ _ _ _ HL.out _ hb1 (by omega)).mono ?_; rintro e w' ⟨rfl, rfl⟩)
      go_simp
      go_loop [4, 7] (fun r k => ∃ (d : Int) (n : Nat), n + 1 ≤ 2 ∧ r = .int .i64 d ∧ k = .int .i64 ((n : Int) + 1) ∧ 0 ≤ d ∧ ((n = 0 ∧ d < 32) ∨ (n = 1 ∧ d < 2048) ∨ (n = 2 ∧ d < 131072) ∨ (n = 3 ∧ d < 8388608)) ∧ Hid (conts s p (byteAt s p - 192) n = some d)) (fun _ k => 2 - (intOf k).toNat)
      case atStart => exact ⟨_, 0, by omega, rfl, by simp, by omega, by omega, Lib.hid rfl⟩
      case round =>
        obtain ⟨d, n, hn, rfl, rfl, hd0, hd1, HM⟩ := hrel
        have hd9 : d < 72057594037927936 := by omega
        by_cases hlt : n + 1 < 2
        · have hlt2 : p + (n + 1) < s.size := by omega
          have hb3 := byteAt_eq s (p + (n + 1)) hlt2
          obtain ⟨hb4, hb5⟩ := byteAt_range s (p + (n + 1))
          by_cases hc : 128 ≤ byteAt s (p + (n + 1)) ∧ byteAt s (p + (n + 1)) < 192
          · have f1 : bits .and .u8 (byteAt s (p + (n + 1))) 192 = 128 := by rw [u8_and192 _ hb4 (by omega)]; omega
            have f2 := u8_and63 (byteAt s (p + (n + 1))) hb4 (by omega)
            have f3 := i64_or6 d (byteAt s (p + (n + 1)) % 64) (by omega) (by omega) (by omega) (by omega)
            have HM2 := Lib.hid (show conts s p (byteAt s p - 192) (n + 1) = some (d * 64 + byteAt s (p + (n + 1)) % 64) by rw [conts_yes HM.out hc.1 hc.2]; congr 1; omega)
            clear hc
            go_wp2_with fail
            go_round
            case rel => exact ⟨_, n + 1, by omega, rfl, by go_num, by omega, by omega, HM2⟩
            case measure => simp [intOf]; omega
          · have f1 : (bits .and .u8 (byteAt s (p + (n + 1))) 192 == 128) = false := by rw [u8_and192 _ hb4 (by omega)]; simp; omega
            have f2 : (bits .and .u8 (byteAt s (p + (n + 1))) 192 != 128) = true := by rw [u8_and192 _ hb4 (by omega)]; simp; omega
            have HX := Lib.hid (show charAt s p = 0 from charAt_Wcont HL.out (by omega) (by omega) (conts_no HM.out (by omega)))
            clear hc
            go_wp2_with fail
            go_ret2
            exact ⟨0, by rw [HX.out]; rfl, rfl⟩
        · obtain rfl : n = 1 := by omega
          have HF := Lib.hid (fits_width (n := 2) (least := 128) hd0 (.inr (.inl ⟨rfl, rfl, by omega⟩)))
          have HC := Lib.hid (charAt_Wof HL.out (by omega) (by omega) HM.out)
          clear hlt
          cases hcb : charB d with
          | false =>
            have HX := Lib.hid (show charAt s p = 0 by
              rw [HC.out]
              cases ho : outside 128 d
              · have := (HF.out.2 ho).1; rw [hcb] at this; cases this
              · rfl)
            go_wp2_with (go_at_call 144; refine (scalar_ex _ _).mono ?_; rintro e w' ⟨rfl, rfl⟩)
            all_goals
              go_ret2
              exact ⟨0, by rw [HX.out]; rfl, rfl⟩
          | true =>
            by_cases hwd : widthD d = 2
            · have HX := Lib.hid (show charAt s p = 2 by rw [HC.out, HF.out.1 ⟨hcb, hwd⟩]; rfl)
              go_wp2_with (first | (go_at_call 144; refine (scalar_ex _ _).mono ?_; rintro e w' ⟨rfl, rfl⟩) | (go_at_call 145; refine (width_ex _ _).mono ?_; rintro e w' ⟨rfl, rfl⟩))
              all_goals
                go_ret2
                exact ⟨_, by rw [HX.out]; rfl, rfl⟩
            · have w1 : (widthD d == 2) = false := by simpa using hwd
              have w2 : (widthD d != 2) = true := by simpa using hwd
              have HX := Lib.hid (show charAt s p = 0 by
                rw [HC.out]
                cases ho : outside 128 d
                · exact absurd (HF.out.2 ho).2 hwd
                · rfl)
              clear hwd
              go_wp2_with (first | (go_at_call 144; refine (scalar_ex _ _).mono ?_; rintro e w' ⟨rfl, rfl⟩) | (go_at_call 145; refine (width_ex _ _).mono ?_; rintro e w' ⟨rfl, rfl⟩))
              all_goals
                go_ret2
                exact ⟨0, by rw [HX.out]; rfl, rfl⟩
    · have hsz' : (s.size : Int) - (p : Int) < 2 := by omega
      have HX := Lib.hid (show charAt s p = 0 from charAt_Wshort HL.out (by omega) (by omega))
      go_enter Tryz.func131, Tryz.ntmps131
      go_wp2_with (go_at_call 143; refine (head_n _ _ _ _ HL.out _ hb1 (by omega)).mono ?_; rintro e w' ⟨rfl, rfl⟩)
      all_goals
        go_ret2
        exact ⟨0, by rw [HX.out]; rfl, rfl⟩
  · have hl : leadW (byteAt s p) = (3, 2048, byteAt s p - 224) := leadW3 ⟨h21, h22⟩
    have HL := Lib.hid hl
    clear hl
    by_cases hsz : p + 3 ≤ s.size
    · have hsz' : ¬ (s.size : Int) - (p : Int) < 3 := by omega
      go_enter Tryz.func131, Tryz.ntmps131
      go_wp2_with (go_at_call 143; refine (head_n _ _ _ _ HL.out _ hb1 (by omega)).mono ?_; rintro e w' ⟨rfl, rfl⟩)
      go_simp
      go_loop [4, 7] (fun r k => ∃ (d : Int) (n : Nat), n + 1 ≤ 3 ∧ r = .int .i64 d ∧ k = .int .i64 ((n : Int) + 1) ∧ 0 ≤ d ∧ ((n = 0 ∧ d < 16) ∨ (n = 1 ∧ d < 1024) ∨ (n = 2 ∧ d < 65536) ∨ (n = 3 ∧ d < 4194304)) ∧ Hid (conts s p (byteAt s p - 224) n = some d)) (fun _ k => 3 - (intOf k).toNat)
      case atStart => exact ⟨_, 0, by omega, rfl, by simp, by omega, by omega, Lib.hid rfl⟩
      case round =>
        obtain ⟨d, n, hn, rfl, rfl, hd0, hd1, HM⟩ := hrel
        have hd9 : d < 72057594037927936 := by omega
        by_cases hlt : n + 1 < 3
        · have hlt2 : p + (n + 1) < s.size := by omega
          have hb3 := byteAt_eq s (p + (n + 1)) hlt2
          obtain ⟨hb4, hb5⟩ := byteAt_range s (p + (n + 1))
          by_cases hc : 128 ≤ byteAt s (p + (n + 1)) ∧ byteAt s (p + (n + 1)) < 192
          · have f1 : bits .and .u8 (byteAt s (p + (n + 1))) 192 = 128 := by rw [u8_and192 _ hb4 (by omega)]; omega
            have f2 := u8_and63 (byteAt s (p + (n + 1))) hb4 (by omega)
            have f3 := i64_or6 d (byteAt s (p + (n + 1)) % 64) (by omega) (by omega) (by omega) (by omega)
            have HM2 := Lib.hid (show conts s p (byteAt s p - 224) (n + 1) = some (d * 64 + byteAt s (p + (n + 1)) % 64) by rw [conts_yes HM.out hc.1 hc.2]; congr 1; omega)
            clear hc
            go_wp2_with fail
            go_round
            case rel => exact ⟨_, n + 1, by omega, rfl, by go_num, by omega, by omega, HM2⟩
            case measure => simp [intOf]; omega
          · have f1 : (bits .and .u8 (byteAt s (p + (n + 1))) 192 == 128) = false := by rw [u8_and192 _ hb4 (by omega)]; simp; omega
            have f2 : (bits .and .u8 (byteAt s (p + (n + 1))) 192 != 128) = true := by rw [u8_and192 _ hb4 (by omega)]; simp; omega
            have HX := Lib.hid (show charAt s p = 0 from charAt_Wcont HL.out (by omega) (by omega) (conts_no HM.out (by omega)))
            clear hc
            go_wp2_with fail
            go_ret2
            exact ⟨0, by rw [HX.out]; rfl, rfl⟩
        · obtain rfl : n = 2 := by omega
          have HF := Lib.hid (fits_width (n := 3) (least := 2048) hd0 (.inr (.inr (.inl ⟨rfl, rfl, by omega⟩))))
          have HC := Lib.hid (charAt_Wof HL.out (by omega) (by omega) HM.out)
          clear hlt
          cases hcb : charB d with
          | false =>
            have HX := Lib.hid (show charAt s p = 0 by
              rw [HC.out]
              cases ho : outside 2048 d
              · have := (HF.out.2 ho).1; rw [hcb] at this; cases this
              · rfl)
            go_wp2_with (go_at_call 144; refine (scalar_ex _ _).mono ?_; rintro e w' ⟨rfl, rfl⟩)
            all_goals
              go_ret2
              exact ⟨0, by rw [HX.out]; rfl, rfl⟩
          | true =>
            by_cases hwd : widthD d = 3
            · have HX := Lib.hid (show charAt s p = 3 by rw [HC.out, HF.out.1 ⟨hcb, hwd⟩]; rfl)
              go_wp2_with (first | (go_at_call 144; refine (scalar_ex _ _).mono ?_; rintro e w' ⟨rfl, rfl⟩) | (go_at_call 145; refine (width_ex _ _).mono ?_; rintro e w' ⟨rfl, rfl⟩))
              all_goals
                go_ret2
                exact ⟨_, by rw [HX.out]; rfl, rfl⟩
            · have w1 : (widthD d == 3) = false := by simpa using hwd
              have w2 : (widthD d != 3) = true := by simpa using hwd
              have HX := Lib.hid (show charAt s p = 0 by
                rw [HC.out]
                cases ho : outside 2048 d
                · exact absurd (HF.out.2 ho).2 hwd
                · rfl)
              clear hwd
              go_wp2_with (first | (go_at_call 144; refine (scalar_ex _ _).mono ?_; rintro e w' ⟨rfl, rfl⟩) | (go_at_call 145; refine (width_ex _ _).mono ?_; rintro e w' ⟨rfl, rfl⟩))
              all_goals
                go_ret2
                exact ⟨0, by rw [HX.out]; rfl, rfl⟩
    · have hsz' : (s.size : Int) - (p : Int) < 3 := by omega
      have HX := Lib.hid (show charAt s p = 0 from charAt_Wshort HL.out (by omega) (by omega))
      go_enter Tryz.func131, Tryz.ntmps131
      go_wp2_with (go_at_call 143; refine (head_n _ _ _ _ HL.out _ hb1 (by omega)).mono ?_; rintro e w' ⟨rfl, rfl⟩)
      all_goals
        go_ret2
        exact ⟨0, by rw [HX.out]; rfl, rfl⟩
  · have hl : leadW (byteAt s p) = (4, 65536, byteAt s p - 240) := leadW4 ⟨h21, h22⟩
    have HL := Lib.hid hl
    clear hl
    by_cases hsz : p + 4 ≤ s.size
    · have hsz' : ¬ (s.size : Int) - (p : Int) < 4 := by omega
      go_enter Tryz.func131, Tryz.ntmps131
      go_wp2_with (go_at_call 143; refine (head_n _ _ _ _ HL.out _ hb1 (by omega)).mono ?_; rintro e w' ⟨rfl, rfl⟩)
      go_simp
      go_loop [4, 7] (fun r k => ∃ (d : Int) (n : Nat), n + 1 ≤ 4 ∧ r = .int .i64 d ∧ k = .int .i64 ((n : Int) + 1) ∧ 0 ≤ d ∧ ((n = 0 ∧ d < 8) ∨ (n = 1 ∧ d < 512) ∨ (n = 2 ∧ d < 32768) ∨ (n = 3 ∧ d < 2097152)) ∧ Hid (conts s p (byteAt s p - 240) n = some d)) (fun _ k => 4 - (intOf k).toNat)
      case atStart => exact ⟨_, 0, by omega, rfl, by simp, by omega, by omega, Lib.hid rfl⟩
      case round =>
        obtain ⟨d, n, hn, rfl, rfl, hd0, hd1, HM⟩ := hrel
        have hd9 : d < 72057594037927936 := by omega
        by_cases hlt : n + 1 < 4
        · have hlt2 : p + (n + 1) < s.size := by omega
          have hb3 := byteAt_eq s (p + (n + 1)) hlt2
          obtain ⟨hb4, hb5⟩ := byteAt_range s (p + (n + 1))
          by_cases hc : 128 ≤ byteAt s (p + (n + 1)) ∧ byteAt s (p + (n + 1)) < 192
          · have f1 : bits .and .u8 (byteAt s (p + (n + 1))) 192 = 128 := by rw [u8_and192 _ hb4 (by omega)]; omega
            have f2 := u8_and63 (byteAt s (p + (n + 1))) hb4 (by omega)
            have f3 := i64_or6 d (byteAt s (p + (n + 1)) % 64) (by omega) (by omega) (by omega) (by omega)
            have HM2 := Lib.hid (show conts s p (byteAt s p - 240) (n + 1) = some (d * 64 + byteAt s (p + (n + 1)) % 64) by rw [conts_yes HM.out hc.1 hc.2]; congr 1; omega)
            clear hc
            go_wp2_with fail
            go_round
            case rel => exact ⟨_, n + 1, by omega, rfl, by go_num, by omega, by omega, HM2⟩
            case measure => simp [intOf]; omega
          · have f1 : (bits .and .u8 (byteAt s (p + (n + 1))) 192 == 128) = false := by rw [u8_and192 _ hb4 (by omega)]; simp; omega
            have f2 : (bits .and .u8 (byteAt s (p + (n + 1))) 192 != 128) = true := by rw [u8_and192 _ hb4 (by omega)]; simp; omega
            have HX := Lib.hid (show charAt s p = 0 from charAt_Wcont HL.out (by omega) (by omega) (conts_no HM.out (by omega)))
            clear hc
            go_wp2_with fail
            go_ret2
            exact ⟨0, by rw [HX.out]; rfl, rfl⟩
        · obtain rfl : n = 3 := by omega
          have HF := Lib.hid (fits_width (n := 4) (least := 65536) hd0 (.inr (.inr (.inr ⟨rfl, rfl⟩))))
          have HC := Lib.hid (charAt_Wof HL.out (by omega) (by omega) HM.out)
          clear hlt
          cases hcb : charB d with
          | false =>
            have HX := Lib.hid (show charAt s p = 0 by
              rw [HC.out]
              cases ho : outside 65536 d
              · have := (HF.out.2 ho).1; rw [hcb] at this; cases this
              · rfl)
            go_wp2_with (go_at_call 144; refine (scalar_ex _ _).mono ?_; rintro e w' ⟨rfl, rfl⟩)
            all_goals
              go_ret2
              exact ⟨0, by rw [HX.out]; rfl, rfl⟩
          | true =>
            by_cases hwd : widthD d = 4
            · have HX := Lib.hid (show charAt s p = 4 by rw [HC.out, HF.out.1 ⟨hcb, hwd⟩]; rfl)
              go_wp2_with (first | (go_at_call 144; refine (scalar_ex _ _).mono ?_; rintro e w' ⟨rfl, rfl⟩) | (go_at_call 145; refine (width_ex _ _).mono ?_; rintro e w' ⟨rfl, rfl⟩))
              all_goals
                go_ret2
                exact ⟨_, by rw [HX.out]; rfl, rfl⟩
            · have w1 : (widthD d == 4) = false := by simpa using hwd
              have w2 : (widthD d != 4) = true := by simpa using hwd
              have HX := Lib.hid (show charAt s p = 0 by
                rw [HC.out]
                cases ho : outside 65536 d
                · exact absurd (HF.out.2 ho).2 hwd
                · rfl)
              clear hwd
              go_wp2_with (first | (go_at_call 144; refine (scalar_ex _ _).mono ?_; rintro e w' ⟨rfl, rfl⟩) | (go_at_call 145; refine (width_ex _ _).mono ?_; rintro e w' ⟨rfl, rfl⟩))
              all_goals
                go_ret2
                exact ⟨0, by rw [HX.out]; rfl, rfl⟩
    · have hsz' : (s.size : Int) - (p : Int) < 4 := by omega
      have HX := Lib.hid (show charAt s p = 0 from charAt_Wshort HL.out (by omega) (by omega))
      go_enter Tryz.func131, Tryz.ntmps131
      go_wp2_with (go_at_call 143; refine (head_n _ _ _ _ HL.out _ hb1 (by omega)).mono ?_; rintro e w' ⟨rfl, rfl⟩)
      all_goals
        go_ret2
        exact ⟨0, by rw [HX.out]; rfl, rfl⟩
  · have hl : leadW (byteAt s p) = (1, 0, byteAt s p) := leadW1 h21
    have HL := Lib.hid hl
    clear hl
    by_cases hsz : p + 1 ≤ s.size
    · have hsz' : ¬ (s.size : Int) - (p : Int) < 1 := by omega
      go_enter Tryz.func131, Tryz.ntmps131
      go_wp2_with (go_at_call 143; refine (head_n _ _ _ _ HL.out _ hb1 (by omega)).mono ?_; rintro e w' ⟨rfl, rfl⟩)
      go_simp
      go_loop [4, 7] (fun r k => ∃ (d : Int) (n : Nat), n + 1 ≤ 1 ∧ r = .int .i64 d ∧ k = .int .i64 ((n : Int) + 1) ∧ 0 ≤ d ∧ ((n = 0 ∧ d < 128) ∨ (n = 1 ∧ d < 8192) ∨ (n = 2 ∧ d < 524288) ∨ (n = 3 ∧ d < 33554432)) ∧ Hid (conts s p (byteAt s p) n = some d)) (fun _ k => 1 - (intOf k).toNat)
      case atStart => exact ⟨_, 0, by omega, rfl, by simp, by omega, by omega, Lib.hid rfl⟩
      case round =>
        obtain ⟨d, n, hn, rfl, rfl, hd0, hd1, HM⟩ := hrel
        have hd9 : d < 72057594037927936 := by omega
        by_cases hlt : n + 1 < 1
        · exfalso; omega
        · obtain rfl : n = 0 := by omega
          have HF := Lib.hid (fits_width (n := 1) (least := 0) hd0 (.inl ⟨rfl, rfl, by omega⟩))
          have HC := Lib.hid (charAt_Wof HL.out (by omega) (by omega) HM.out)
          clear hlt
          cases hcb : charB d with
          | false =>
            have HX := Lib.hid (show charAt s p = 0 by
              rw [HC.out]
              cases ho : outside 0 d
              · have := (HF.out.2 ho).1; rw [hcb] at this; cases this
              · rfl)
            go_wp2_with (go_at_call 144; refine (scalar_ex _ _).mono ?_; rintro e w' ⟨rfl, rfl⟩)
            all_goals
              go_ret2
              exact ⟨0, by rw [HX.out]; rfl, rfl⟩
          | true =>
            by_cases hwd : widthD d = 1
            · have HX := Lib.hid (show charAt s p = 1 by rw [HC.out, HF.out.1 ⟨hcb, hwd⟩]; rfl)
              go_wp2_with (first | (go_at_call 144; refine (scalar_ex _ _).mono ?_; rintro e w' ⟨rfl, rfl⟩) | (go_at_call 145; refine (width_ex _ _).mono ?_; rintro e w' ⟨rfl, rfl⟩))
              all_goals
                go_ret2
                exact ⟨_, by rw [HX.out]; rfl, rfl⟩
            · have w1 : (widthD d == 1) = false := by simpa using hwd
              have w2 : (widthD d != 1) = true := by simpa using hwd
              have HX := Lib.hid (show charAt s p = 0 by
                rw [HC.out]
                cases ho : outside 0 d
                · exact absurd (HF.out.2 ho).2 hwd
                · rfl)
              clear hwd
              go_wp2_with (first | (go_at_call 144; refine (scalar_ex _ _).mono ?_; rintro e w' ⟨rfl, rfl⟩) | (go_at_call 145; refine (width_ex _ _).mono ?_; rintro e w' ⟨rfl, rfl⟩))
              all_goals
                go_ret2
                exact ⟨0, by rw [HX.out]; rfl, rfl⟩
    · have hsz' : (s.size : Int) - (p : Int) < 1 := by omega
      have HX := Lib.hid (show charAt s p = 0 from charAt_Wshort HL.out (by omega) (by omega))
      go_enter Tryz.func131, Tryz.ntmps131
      go_wp2_with (go_at_call 143; refine (head_n _ _ _ _ HL.out _ hb1 (by omega)).mono ?_; rintro e w' ⟨rfl, rfl⟩)
      all_goals
        go_ret2
        exact ⟨0, by rw [HX.out]; rfl, rfl⟩
  · have HL := Lib.hid (leadW0 h21)
    have HX := Lib.hid (show charAt s p = 0 from charAt_W0 h21)
    clear h21
    go_enter Tryz.func131, Tryz.ntmps131
    go_wp2_with (go_at_call 143; refine (head_n _ _ _ _ HL.out _ hb1 (by omega)).mono ?_; rintro e w' ⟨rfl, rfl⟩)
    all_goals
      go_ret2
      exact ⟨0, by rw [HX.out]; rfl, rfl⟩
def LenR (s : ByteArray) (w : World) (e : Ending) (w' : World) : Prop := ∃ n k : Int, e = .returned (.tuple #[.int .i64 n, .int .i64 k]) ∧ k = (if validS s = true then 0 else 5) ∧ w = w'
set_option maxRecDepth 100000 in
set_option maxHeartbeats 800000 in
theorem ulen_ex (s : ByteArray) (w : World) (hs : s.size ≤ 1099511627776) : Calls Tryz.prog 120 #[.string s] w (LenR s w) := by
  have hs' : s.size ≤ maxLen := by unfold maxLen; omega
  go_enter Tryz.func120, Tryz.ntmps120
  go_wp2_with fail
  go_loop [4, 5] (fun v i => ∃ (k n : Nat), k ≤ s.size ∧ n ≤ k ∧ i = .int .i64 k ∧ v = .int .i64 n ∧ Hid (okFrom s (s.size - k) k = validS s)) (fun _ i => s.size - (intOf i).toNat)
  case atStart => exact ⟨0, 0, by omega, by omega, rfl, rfl, Lib.hid rfl⟩
  case round =>
    obtain ⟨k, c, hk, hc, rfl, rfl, HV⟩ := hrel
    by_cases hlt : k < s.size
    · go_wp2_with fail
      refine (udec_ex s k _ hs' hlt).mono ?_
      rintro e w1 ⟨r, rfl, rfl⟩
      by_cases hz : charAt s k = 0
      · have HX := Lib.hid (show validS s = false by rw [← HV.out]; exact okFrom_bad s k hlt hz)
        rw [hz]
        clear hz
        go_wp2_with fail
        go_ret2
        exact ⟨_, _, rfl, by rw [HX.out]; rfl, rfl⟩
      · have hle := charAt_le hz
        obtain ⟨n, hn⟩ : ∃ n, charAt s k = n := ⟨_, rfl⟩
        have HX := Lib.hid (show okFrom s (s.size - (k + n)) (k + n) = validS s by rw [← HV.out]; exact (okFrom_step s k n hlt hn (by rw [← hn]; exact hz)).symm)
        rw [hn] at hz hle ⊢
        clear hn
        have hn1 : ((n : Int) == 0) = false := by simp; omega
        go_wp2_with fail
        go_round
        case rel => exact ⟨k + n, c + 1, by omega, by omega, by go_num, by go_num, HX⟩
        case measure => simp [intOf]; omega
    · have HX := Lib.hid (show validS s = true by rw [← HV.out]; exact okFrom_end s k (by omega))
      go_wp2_with fail
      go_ret2
      exact ⟨_, _, rfl, by rw [HX.out]; rfl, rfl⟩
def UvlR (b : Bool) (w : World) (e : Ending) (w' : World) : Prop := e = .returned (.bool b) ∧ w = w'
theorem uvalid_ex (s : ByteArray) (w : World) (hs : s.size ≤ 1099511627776) : Calls Tryz.prog 105 #[.string s] w (UvlR (validS s) w) := by
  cases hv : validS s
  all_goals
    have HV := Lib.hid hv
    go_enter Tryz.func105, Tryz.ntmps105
    go_wp2_with fail
    refine (ulen_ex s _ hs).mono ?_
    rintro e w' ⟨n, k, rfl, hk, rfl⟩
    rw [HV.out] at hk
    simp only [if_true, Bool.false_eq_true, if_false] at hk
    subst hk
    go_wp2_with fail
    go_ret
    exact ⟨rfl, rfl⟩
end Go.Proofs.YtfegnmbdgdjkgaaGreatDoor
