/- The reference's UTF-8 (datakitref03): Encode, Decode, Boundaries, Valid: what they compute. -/
import Derived.Test.YtfegnmbdgdjkgaaGreatDoorU03
import Derived.Test.YtfegnmbdgdjkgaaGreatDoorU8Eq
namespace Go.Proofs.YtfegnmbdgdjkgaaGreatDoor
open Go.RowKit

theorem wraps_i64 (n : Int) (h₀ : 0 ≤ n) (h₁ : n < 2 ^ 62) : IntKind.i64.wrap n = n := by rw [IntKind.wrap_i64]; omega
theorem i64_and63 (x : Int) (h₀ : 0 ≤ x) (h₁ : x < 4611686018427387904) : bits .and .i64 x 63 = x % 64 := bits_mask .i64 62 (by decide) wraps_i64 6 (by decide) x h₀ h₁
theorem i64_and31 (x : Int) (h₀ : 0 ≤ x) (h₁ : x < 4611686018427387904) : bits .and .i64 x 31 = x % 32 := bits_mask .i64 62 (by decide) wraps_i64 5 (by decide) x h₀ h₁
theorem i64_and15 (x : Int) (h₀ : 0 ≤ x) (h₁ : x < 4611686018427387904) : bits .and .i64 x 15 = x % 16 := bits_mask .i64 62 (by decide) wraps_i64 4 (by decide) x h₀ h₁
theorem i64_and7 (x : Int) (h₀ : 0 ≤ x) (h₁ : x < 4611686018427387904) : bits .and .i64 x 7 = x % 8 := bits_mask .i64 62 (by decide) wraps_i64 3 (by decide) x h₀ h₁
theorem i64_or128 (y : Int) (h₀ : 0 ≤ y) (h₁ : y < 64) : bits .or .i64 128 y = 128 + y := bits_join .i64 62 (by decide) wraps_i64 6 128 y (by decide) (by decide) (by decide) h₀ h₁ (by omega)
theorem i64_or192 (y : Int) (h₀ : 0 ≤ y) (h₁ : y < 32) : bits .or .i64 192 y = 192 + y := bits_join .i64 62 (by decide) wraps_i64 5 192 y (by decide) (by decide) (by decide) h₀ h₁ (by omega)
theorem i64_or224 (y : Int) (h₀ : 0 ≤ y) (h₁ : y < 16) : bits .or .i64 224 y = 224 + y := bits_join .i64 62 (by decide) wraps_i64 4 224 y (by decide) (by decide) (by decide) h₀ h₁ (by omega)
theorem i64_or240 (y : Int) (h₀ : 0 ≤ y) (h₁ : y < 8) : bits .or .i64 240 y = 240 + y := bits_join .i64 62 (by decide) wraps_i64 3 240 y (by decide) (by decide) (by decide) h₀ h₁ (by omega)
theorem i64_or6 (x y : Int) (hx₀ : 0 ≤ x) (hx₁ : x < 72057594037927936) (h₀ : 0 ≤ y) (h₁ : y < 64) : bits .or .i64 (x * 64) y = x * 64 + y := bits_join .i64 62 (by decide) wraps_i64 6 (x * 64) y (by omega) (by omega) (by omega) h₀ h₁ (by omega)

def EncR (r : Int) (w : World) (e : Ending) (w' : World) : Prop := ∃ (s : ByteArray) (k : Int), e = .returned (.tuple #[.string s, .int .i64 k]) ∧ (charB r = true → k = 0 ∧ s = strOfNums (encL r)) ∧ (charB r = false → k = 2) ∧ Below w.heap.size w w'
set_option maxHeartbeats 800000 in
theorem enc_ex (r : Int) (w : World) : Calls Tryz.prog 151 #[.int .i64 r] w (EncR r w) := by
  cases hb : charB r
  · have HB := Lib.hid hb
    go_enter Tryz.func151, Tryz.ntmps151
    go_wp2_with (go_at_call 155; refine (char_any _ _).mono ?_; rintro e w' ⟨rfl, rfl⟩)
    go_ret2
    exact ⟨_, _, rfl, fun h => (by rw [HB.out] at h; cases h), fun _ => rfl, Below.refl _ _⟩
  · have HB := Lib.hid hb
    have hr : 0 ≤ r ∧ r ≤ 1114111 := by
      unfold charB at hb
      simp only [Bool.and_eq_true, decide_eq_true_eq] at hb
      omega
    obtain ⟨hr0, hr1⟩ := hr
    have HE := Lib.hid (show encL r = if r < 128 then [r] else if r < 2048 then [192 + r / 64, 128 + r % 64] else if r < 65536 then [224 + r / 4096, 128 + r / 64 % 64, 128 + r % 64] else [240 + r / 262144, 128 + r / 4096 % 64, 128 + r / 64 % 64, 128 + r % 64] from rfl)
    have hcase : r < 128 ∨ (¬ r < 128 ∧ r < 2048) ∨ (¬ r < 128 ∧ ¬ r < 2048 ∧ r < 65536) ∨ (¬ r < 128 ∧ ¬ r < 2048 ∧ ¬ r < 65536) := by omega
    rcases hcase with h1 | ⟨h1, h2⟩ | ⟨h1, h2, h3⟩ | ⟨h1, h2, h3⟩
    · go_enter Tryz.func151, Tryz.ntmps151
      go_wp2_with (go_at_call 155; refine (char_any _ _).mono ?_; rintro e w' ⟨rfl, rfl⟩)
      go_ret2
      refine ⟨_, _, rfl, fun _ => ⟨rfl, ?_⟩, fun h => (by rw [HB.out] at h; cases h), (Below.refl _ _).alloc (Nat.le_refl _) _⟩
      rw [HE.out, if_pos h1]
    · have f1 := i64_or192 (r / 64) (by omega) (by omega)
      have f2 := i64_and63 r (by omega) (by omega)
      have f3 := i64_or128 (r % 64) (by omega) (by omega)
      go_enter Tryz.func151, Tryz.ntmps151
      go_wp2_with (go_at_call 155; refine (char_any _ _).mono ?_; rintro e w' ⟨rfl, rfl⟩)
      go_ret2
      refine ⟨_, _, rfl, fun _ => ⟨rfl, ?_⟩, fun h => (by rw [HB.out] at h; cases h), (Below.refl _ _).alloc (Nat.le_refl _) _⟩
      rw [HE.out, if_neg (by omega), if_pos h2]
    · have f1 := i64_or224 (r / 4096) (by omega) (by omega)
      have f2 := i64_and63 r (by omega) (by omega)
      have f3 := i64_or128 (r % 64) (by omega) (by omega)
      have f4 := i64_and63 (r / 64) (by omega) (by omega)
      have f5 := i64_or128 (r / 64 % 64) (by omega) (by omega)
      go_enter Tryz.func151, Tryz.ntmps151
      go_wp2_with (go_at_call 155; refine (char_any _ _).mono ?_; rintro e w' ⟨rfl, rfl⟩)
      go_ret2
      refine ⟨_, _, rfl, fun _ => ⟨rfl, ?_⟩, fun h => (by rw [HB.out] at h; cases h), (Below.refl _ _).alloc (Nat.le_refl _) _⟩
      rw [HE.out, if_neg (by omega), if_neg (by omega), if_pos h3]
    · have f1 := i64_or240 (r / 262144) (by omega) (by omega)
      have f2 := i64_and63 r (by omega) (by omega)
      have f3 := i64_or128 (r % 64) (by omega) (by omega)
      have f4 := i64_and63 (r / 64) (by omega) (by omega)
      have f5 := i64_or128 (r / 64 % 64) (by omega) (by omega)
      have f6 := i64_and63 (r / 4096) (by omega) (by omega)
      have f7 := i64_or128 (r / 4096 % 64) (by omega) (by omega)
      go_enter Tryz.func151, Tryz.ntmps151
      go_wp2_with (go_at_call 155; refine (char_any _ _).mono ?_; rintro e w' ⟨rfl, rfl⟩)
      go_ret2
      refine ⟨_, _, rfl, fun _ => ⟨rfl, ?_⟩, fun h => (by rw [HB.out] at h; cases h), (Below.refl _ _).alloc (Nat.le_refl _) _⟩
      rw [HE.out, if_neg (by omega), if_neg (by omega), if_neg (by omega)]

def DecR (s : ByteArray) (p : Nat) (w : World) (e : Ending) (w' : World) : Prop := ∃ r : Int, e = .returned (.tuple #[.int .i64 r, .int .i64 (charAt s p)]) ∧ Below w.heap.size w w'
theorem charB_iff (r : Int) : charB r = true ↔ isChar r := by
  unfold charB isChar
  simp only [Bool.and_eq_true, Bool.or_eq_true, decide_eq_true_eq]
  omega
theorem yes2 {s : ByteArray} {p : Nat} (h1 : 192 ≤ byteAt s p) (h2 : byteAt s p < 224) (hs : p + 2 ≤ s.size) (he : encL (mix s p (byteAt s p % 32) 1) = (List.range 2).map fun j => byteAt s (p + j)) : charAt s p = 2 := two_yes h1 h2 hs he
theorem no2 {s : ByteArray} {p : Nat} (h1 : 192 ≤ byteAt s p) (h2 : byteAt s p < 224) (hs : p + 2 ≤ s.size) (he : ¬ (isChar (mix s p (byteAt s p % 32) 1) ∧ encL (mix s p (byteAt s p % 32) 1) = (List.range 2).map fun j => byteAt s (p + j))) : charAt s p = 0 := by
  refine two_no h1 h2 hs fun e => he ⟨?_, e⟩
  have hm : mix s p (byteAt s p % 32) 1 = byteAt s p % 32 * 64 + byteAt s (p + 1) % 64 := rfl
  rw [hm]
  exact ⟨by omega, by omega, .inl (by omega)⟩
theorem yes3 {s : ByteArray} {p : Nat} (h1 : 224 ≤ byteAt s p) (h2 : byteAt s p < 240) (hs : p + 3 ≤ s.size) (hr : isChar (mix s p (byteAt s p % 16) 2)) (he : encL (mix s p (byteAt s p % 16) 2) = (List.range 3).map fun j => byteAt s (p + j)) : charAt s p = 3 := three_yes h1 h2 hs hr he
theorem no3 {s : ByteArray} {p : Nat} (h1 : 224 ≤ byteAt s p) (h2 : byteAt s p < 240) (hs : p + 3 ≤ s.size) (he : ¬ (isChar (mix s p (byteAt s p % 16) 2) ∧ encL (mix s p (byteAt s p % 16) 2) = (List.range 3).map fun j => byteAt s (p + j))) : charAt s p = 0 := three_no h1 h2 hs he
theorem yes4 {s : ByteArray} {p : Nat} (h1 : 240 ≤ byteAt s p) (hs : p + 4 ≤ s.size) (hr : isChar (mix s p (byteAt s p % 8) 3)) (he : encL (mix s p (byteAt s p % 8) 3) = (List.range 4).map fun j => byteAt s (p + j)) : charAt s p = 4 := four_yes h1 hs hr he
theorem no4 {s : ByteArray} {p : Nat} (h1 : 240 ≤ byteAt s p) (hs : p + 4 ≤ s.size) (he : ¬ (isChar (mix s p (byteAt s p % 8) 3) ∧ encL (mix s p (byteAt s p % 8) 3) = (List.range 4).map fun j => byteAt s (p + j))) : charAt s p = 0 := four_no h1 hs he
theorem charAt_short2 {s : ByteArray} {p : Nat} (h1 : 192 ≤ byteAt s p) (h2 : byteAt s p < 224) (hs : s.size < p + 2) : charAt s p = 0 := charAt_Wshort (leadW2 ⟨h1, h2⟩) (by omega) hs
theorem charAt_short3 {s : ByteArray} {p : Nat} (h1 : 224 ≤ byteAt s p) (h2 : byteAt s p < 240) (hs : s.size < p + 3) : charAt s p = 0 := charAt_Wshort (leadW3 ⟨h1, h2⟩) (by omega) hs
theorem charAt_short4 {s : ByteArray} {p : Nat} (h1 : 240 ≤ byteAt s p) (hs : s.size < p + 4) : charAt s p = 0 := by
  by_cases h2 : 248 ≤ byteAt s p
  · exact charAt_W0 (.inr h2)
  · exact charAt_Wshort (leadW4 ⟨h1, by omega⟩) (by omega) hs
set_option maxRecDepth 100000 in
set_option maxHeartbeats 3200000 in
theorem dec_ex (s : ByteArray) (p : Nat) (w : World) (hs : s.size ≤ maxLen) (hp : p < s.size) : Calls Tryz.prog 147 #[.string s, .int .i64 p] w (DecR s p w) := by
  unfold maxLen at hs
  have hb0 := byteAt_eq s p hp
  obtain ⟨hb1, hb2⟩ := byteAt_range s p
  have hcls : (192 ≤ byteAt s p ∧ byteAt s p < 224) ∨ (224 ≤ byteAt s p ∧ byteAt s p < 240) ∨ (240 ≤ byteAt s p) ∨ (byteAt s p < 192) := by omega
  rcases hcls with ⟨h21, h22⟩ | ⟨h21, h22⟩ | h21 | h21
  · skip
    have f1 := i64_and31 (byteAt s p) (by omega) (by omega)
    by_cases hsz : p + 2 ≤ s.size
    · have hsz' : ¬ (s.size : Int) - (p : Int) < 2 := by omega
      go_enter Tryz.func147, Tryz.ntmps147
      go_wp2_with fail
      go_simp
      go_loop [8, 9] (fun r k => ∃ (d : Int) (n : Nat), n + 1 ≤ 2 ∧ r = .int .i64 d ∧ k = .int .i64 ((n : Int) + 1) ∧ 0 ≤ d ∧ ((n = 0 ∧ d < 32) ∨ (n = 1 ∧ d < 2048) ∨ (n = 2 ∧ d < 131072) ∨ (n = 3 ∧ d < 8388608)) ∧ Hid (mix s p (byteAt s p % 32) n = d)) (fun _ k => 2 - (intOf k).toNat)
      case atStart => exact ⟨_, 0, by omega, rfl, by simp, by omega, by omega, Lib.hid rfl⟩
      case round =>
        obtain ⟨d, n, hn, rfl, rfl, hd0, hd1, HM⟩ := hrel
        have hd9 : d < 72057594037927936 := by omega
        by_cases hlt : n + 1 < 2
        · have hlt2 : p + (n + 1) < s.size := by omega
          have hb3 := byteAt_eq s (p + (n + 1)) hlt2
          obtain ⟨hb4, hb5⟩ := byteAt_range s (p + (n + 1))
          have f2 := i64_and63 (byteAt s (p + (n + 1))) (by omega) (by omega)
          have f3 := i64_or6 d (byteAt s (p + (n + 1)) % 64) (by omega) (by omega) (by omega) (by omega)
          have HM2 := Lib.hid (show mix s p (byteAt s p % 32) (n + 1) = d * 64 + byteAt s (p + (n + 1)) % 64 by simp only [mix]; rw [HM.out])
          go_wp2_with fail
          go_round
          case rel => exact ⟨_, n + 1, by omega, rfl, by go_num, by omega, by omega, HM2⟩
          case measure => simp [intOf]; omega
        · obtain rfl : n = 1 := by omega
          have hd8 : d ≤ 2097151 := by omega
          have HEQ := Lib.hid (enc_eq (s := s) (p := p) (n := 2) hd0 hd8 hsz)
          clear hlt
          cases hcb : charB d with
          | false =>
            have HX := Lib.hid (show charAt s p = 0 from no2 h21 h22 hsz (fun h => by rw [HM.out] at h; rw [(charB_iff d).2 h.1] at hcb; cases hcb))
            have HCB := Lib.hid hcb
            clear hcb
            go_wp2_with fail
            refine (enc_ex d _).mono ?_
            rintro e w1 ⟨t, k, rfl, _, g2, hb⟩
            obtain rfl : k = 2 := g2 HCB.out
            have HB := Lib.hid hb
            clear g2 hb
            go_wp2_with fail
            all_goals
              go_ret2
              exact ⟨0, by rw [HX.out]; rfl, HB.out⟩
          | true =>
            have HCB := Lib.hid hcb
            clear hcb
            go_wp2_with fail
            refine (enc_ex d _).mono ?_
            rintro e w1 ⟨t, k, rfl, g1, _, hb⟩
            obtain ⟨rfl, ht⟩ := g1 HCB.out
            have HT := Lib.hid ht
            have HB := Lib.hid hb
            clear g1 hb ht
            by_cases hq : t.toList = (s.extract p (p + 2)).toList
            · have q1 : (t.toList == (s.extract p (p + 2)).toList) = true := by simpa using hq
              have HX := Lib.hid (show charAt s p = 2 by
                rw [HT.out] at hq
                have he := HEQ.out.1 hq
                rw [← HM.out] at he
                exact yes2 h21 h22 hsz he)
              clear hq
              go_wp2_with fail
              all_goals
                go_ret2
                exact ⟨_, by rw [HX.out]; rfl, HB.out⟩
            · have q1 : (t.toList == (s.extract p (p + 2)).toList) = false := by simpa using hq
              have HX := Lib.hid (show charAt s p = 0 from no2 h21 h22 hsz (fun h => hq (by
                rw [HT.out]
                refine HEQ.out.2 ?_
                rw [← HM.out]
                exact h.2)))
              clear hq
              go_wp2_with fail
              all_goals
                go_ret2
                exact ⟨0, by rw [HX.out]; rfl, HB.out⟩
    · have hsz' : (s.size : Int) - (p : Int) < 2 := by omega
      have HX := Lib.hid (show charAt s p = 0 from charAt_short2 h21 h22 (by omega))
      go_enter Tryz.func147, Tryz.ntmps147
      go_wp2_with fail
      go_ret2
      exact ⟨0, by rw [HX.out]; rfl, Below.refl _ _⟩
  · skip
    have f1 := i64_and15 (byteAt s p) (by omega) (by omega)
    by_cases hsz : p + 3 ≤ s.size
    · have hsz' : ¬ (s.size : Int) - (p : Int) < 3 := by omega
      go_enter Tryz.func147, Tryz.ntmps147
      go_wp2_with fail
      go_simp
      go_loop [8, 9] (fun r k => ∃ (d : Int) (n : Nat), n + 1 ≤ 3 ∧ r = .int .i64 d ∧ k = .int .i64 ((n : Int) + 1) ∧ 0 ≤ d ∧ ((n = 0 ∧ d < 16) ∨ (n = 1 ∧ d < 1024) ∨ (n = 2 ∧ d < 65536) ∨ (n = 3 ∧ d < 4194304)) ∧ Hid (mix s p (byteAt s p % 16) n = d)) (fun _ k => 3 - (intOf k).toNat)
      case atStart => exact ⟨_, 0, by omega, rfl, by simp, by omega, by omega, Lib.hid rfl⟩
      case round =>
        obtain ⟨d, n, hn, rfl, rfl, hd0, hd1, HM⟩ := hrel
        have hd9 : d < 72057594037927936 := by omega
        by_cases hlt : n + 1 < 3
        · have hlt2 : p + (n + 1) < s.size := by omega
          have hb3 := byteAt_eq s (p + (n + 1)) hlt2
          obtain ⟨hb4, hb5⟩ := byteAt_range s (p + (n + 1))
          have f2 := i64_and63 (byteAt s (p + (n + 1))) (by omega) (by omega)
          have f3 := i64_or6 d (byteAt s (p + (n + 1)) % 64) (by omega) (by omega) (by omega) (by omega)
          have HM2 := Lib.hid (show mix s p (byteAt s p % 16) (n + 1) = d * 64 + byteAt s (p + (n + 1)) % 64 by simp only [mix]; rw [HM.out])
          go_wp2_with fail
          go_round
          case rel => exact ⟨_, n + 1, by omega, rfl, by go_num, by omega, by omega, HM2⟩
          case measure => simp [intOf]; omega
        · obtain rfl : n = 2 := by omega
          have hd8 : d ≤ 2097151 := by omega
          have HEQ := Lib.hid (enc_eq (s := s) (p := p) (n := 3) hd0 hd8 hsz)
          clear hlt
          cases hcb : charB d with
          | false =>
            have HX := Lib.hid (show charAt s p = 0 from no3 h21 h22 hsz (fun h => by rw [HM.out] at h; rw [(charB_iff d).2 h.1] at hcb; cases hcb))
            have HCB := Lib.hid hcb
            clear hcb
            go_wp2_with fail
            refine (enc_ex d _).mono ?_
            rintro e w1 ⟨t, k, rfl, _, g2, hb⟩
            obtain rfl : k = 2 := g2 HCB.out
            have HB := Lib.hid hb
            clear g2 hb
            go_wp2_with fail
            all_goals
              go_ret2
              exact ⟨0, by rw [HX.out]; rfl, HB.out⟩
          | true =>
            have HCB := Lib.hid hcb
            clear hcb
            go_wp2_with fail
            refine (enc_ex d _).mono ?_
            rintro e w1 ⟨t, k, rfl, g1, _, hb⟩
            obtain ⟨rfl, ht⟩ := g1 HCB.out
            have HT := Lib.hid ht
            have HB := Lib.hid hb
            clear g1 hb ht
            by_cases hq : t.toList = (s.extract p (p + 3)).toList
            · have q1 : (t.toList == (s.extract p (p + 3)).toList) = true := by simpa using hq
              have HX := Lib.hid (show charAt s p = 3 by
                rw [HT.out] at hq
                have he := HEQ.out.1 hq
                rw [← HM.out] at he
                exact yes3 h21 h22 hsz (by rw [HM.out]; exact (charB_iff d).1 HCB.out) he)
              clear hq
              go_wp2_with fail
              all_goals
                go_ret2
                exact ⟨_, by rw [HX.out]; rfl, HB.out⟩
            · have q1 : (t.toList == (s.extract p (p + 3)).toList) = false := by simpa using hq
              have HX := Lib.hid (show charAt s p = 0 from no3 h21 h22 hsz (fun h => hq (by
                rw [HT.out]
                refine HEQ.out.2 ?_
                rw [← HM.out]
                exact h.2)))
              clear hq
              go_wp2_with fail
              all_goals
                go_ret2
                exact ⟨0, by rw [HX.out]; rfl, HB.out⟩
    · have hsz' : (s.size : Int) - (p : Int) < 3 := by omega
      have HX := Lib.hid (show charAt s p = 0 from charAt_short3 h21 h22 (by omega))
      go_enter Tryz.func147, Tryz.ntmps147
      go_wp2_with fail
      go_ret2
      exact ⟨0, by rw [HX.out]; rfl, Below.refl _ _⟩
  · skip
    have f1 := i64_and7 (byteAt s p) (by omega) (by omega)
    by_cases hsz : p + 4 ≤ s.size
    · have hsz' : ¬ (s.size : Int) - (p : Int) < 4 := by omega
      go_enter Tryz.func147, Tryz.ntmps147
      go_wp2_with fail
      go_simp
      go_loop [8, 9] (fun r k => ∃ (d : Int) (n : Nat), n + 1 ≤ 4 ∧ r = .int .i64 d ∧ k = .int .i64 ((n : Int) + 1) ∧ 0 ≤ d ∧ ((n = 0 ∧ d < 8) ∨ (n = 1 ∧ d < 512) ∨ (n = 2 ∧ d < 32768) ∨ (n = 3 ∧ d < 2097152)) ∧ Hid (mix s p (byteAt s p % 8) n = d)) (fun _ k => 4 - (intOf k).toNat)
      case atStart => exact ⟨_, 0, by omega, rfl, by simp, by omega, by omega, Lib.hid rfl⟩
      case round =>
        obtain ⟨d, n, hn, rfl, rfl, hd0, hd1, HM⟩ := hrel
        have hd9 : d < 72057594037927936 := by omega
        by_cases hlt : n + 1 < 4
        · have hlt2 : p + (n + 1) < s.size := by omega
          have hb3 := byteAt_eq s (p + (n + 1)) hlt2
          obtain ⟨hb4, hb5⟩ := byteAt_range s (p + (n + 1))
          have f2 := i64_and63 (byteAt s (p + (n + 1))) (by omega) (by omega)
          have f3 := i64_or6 d (byteAt s (p + (n + 1)) % 64) (by omega) (by omega) (by omega) (by omega)
          have HM2 := Lib.hid (show mix s p (byteAt s p % 8) (n + 1) = d * 64 + byteAt s (p + (n + 1)) % 64 by simp only [mix]; rw [HM.out])
          go_wp2_with fail
          go_round
          case rel => exact ⟨_, n + 1, by omega, rfl, by go_num, by omega, by omega, HM2⟩
          case measure => simp [intOf]; omega
        · obtain rfl : n = 3 := by omega
          have hd8 : d ≤ 2097151 := by omega
          have HEQ := Lib.hid (enc_eq (s := s) (p := p) (n := 4) hd0 hd8 hsz)
          clear hlt
          cases hcb : charB d with
          | false =>
            have HX := Lib.hid (show charAt s p = 0 from no4 h21 hsz (fun h => by rw [HM.out] at h; rw [(charB_iff d).2 h.1] at hcb; cases hcb))
            have HCB := Lib.hid hcb
            clear hcb
            go_wp2_with fail
            refine (enc_ex d _).mono ?_
            rintro e w1 ⟨t, k, rfl, _, g2, hb⟩
            obtain rfl : k = 2 := g2 HCB.out
            have HB := Lib.hid hb
            clear g2 hb
            go_wp2_with fail
            all_goals
              go_ret2
              exact ⟨0, by rw [HX.out]; rfl, HB.out⟩
          | true =>
            have HCB := Lib.hid hcb
            clear hcb
            go_wp2_with fail
            refine (enc_ex d _).mono ?_
            rintro e w1 ⟨t, k, rfl, g1, _, hb⟩
            obtain ⟨rfl, ht⟩ := g1 HCB.out
            have HT := Lib.hid ht
            have HB := Lib.hid hb
            clear g1 hb ht
            by_cases hq : t.toList = (s.extract p (p + 4)).toList
            · have q1 : (t.toList == (s.extract p (p + 4)).toList) = true := by simpa using hq
              have HX := Lib.hid (show charAt s p = 4 by
                rw [HT.out] at hq
                have he := HEQ.out.1 hq
                rw [← HM.out] at he
                exact yes4 h21 hsz (by rw [HM.out]; exact (charB_iff d).1 HCB.out) he)
              clear hq
              go_wp2_with fail
              all_goals
                go_ret2
                exact ⟨_, by rw [HX.out]; rfl, HB.out⟩
            · have q1 : (t.toList == (s.extract p (p + 4)).toList) = false := by simpa using hq
              have HX := Lib.hid (show charAt s p = 0 from no4 h21 hsz (fun h => hq (by
                rw [HT.out]
                refine HEQ.out.2 ?_
                rw [← HM.out]
                exact h.2)))
              clear hq
              go_wp2_with fail
              all_goals
                go_ret2
                exact ⟨0, by rw [HX.out]; rfl, HB.out⟩
    · have hsz' : (s.size : Int) - (p : Int) < 4 := by omega
      have HX := Lib.hid (show charAt s p = 0 from charAt_short4 h21 (by omega))
      go_enter Tryz.func147, Tryz.ntmps147
      go_wp2_with fail
      go_ret2
      exact ⟨0, by rw [HX.out]; rfl, Below.refl _ _⟩
  · have hcb : charB (byteAt s p) = true := (charB_iff _).2 ⟨by omega, by omega, .inl (by omega)⟩
    have HCB := Lib.hid hcb
    have HEQ := Lib.hid (enc_eq (s := s) (p := p) (n := 1) (r := byteAt s p) (by omega) (by omega) (by omega))
    clear hcb
    have hsz' : ¬ (s.size : Int) - (p : Int) < 1 := by omega
    go_enter Tryz.func147, Tryz.ntmps147
    go_wp2_with fail
    go_simp
    go_loop [8, 9] (fun r k => r = .int .i64 (byteAt s p) ∧ k = .int .i64 1) (fun _ k => 1 - (intOf k).toNat)
    case atStart => exact ⟨rfl, rfl⟩
    case round =>
      obtain ⟨rfl, rfl⟩ := hrel
      go_wp2_with fail
      refine (enc_ex _ _).mono ?_
      rintro e w1 ⟨t, k, rfl, g1, _, hb⟩
      obtain ⟨rfl, ht⟩ := g1 HCB.out
      have HT := Lib.hid ht
      have HB := Lib.hid hb
      clear g1 hb ht
      by_cases h28 : byteAt s p < 128
      · have hq : t.toList = (s.extract p (p + 1)).toList := by
          rw [HT.out]
          exact HEQ.out.2 (by rw [enc1 h28]; rfl)
        have q1 : (t.toList == (s.extract p (p + 1)).toList) = true := by simpa using hq
        have HX := Lib.hid (one_char h28 hp)
        clear hq
        go_wp2_with fail
        all_goals
          go_ret2
          exact ⟨_, by rw [HX.out]; rfl, HB.out⟩
      · have hq : ¬ t.toList = (s.extract p (p + 1)).toList := by
          rw [HT.out]
          intro h
          have := HEQ.out.1 h
          rw [enc2 (by omega) (by omega)] at this
          simp [List.range_succ] at this
        have q1 : (t.toList == (s.extract p (p + 1)).toList) = false := by simpa using hq
        have HX := Lib.hid (charAt_W0 (s := s) (p := p) (.inl ⟨by omega, by omega⟩))
        clear hq
        go_wp2_with fail
        all_goals
          go_ret2
          exact ⟨0, by rw [HX.out]; rfl, HB.out⟩

def BndR (s : ByteArray) (w : World) (e : Ending) (w' : World) : Prop := ∃ (v : Value), e = .returned (.tuple #[v, .bool (validS s)]) ∧ Below w.heap.size w w'
set_option maxRecDepth 100000 in
set_option maxHeartbeats 800000 in
theorem bounds_ex (s : ByteArray) (w : World) (hs : s.size ≤ 1099511627776) : Calls Tryz.prog 136 #[.string s] w (BndR s w) := by
  obtain ⟨i0, hi, hz0, hz1, hz2⟩ := info_parts info3
  have hs' : s.size ≤ maxLen := by unfold maxLen; omega
  go_enter Tryz.func136, Tryz.ntmps136
  go_wp2_with fail
  go_loopw [4, 5] (fun v i wr => ∃ (k : Nat) (xs : List Int), k ≤ s.size ∧ i = .int .i64 k ∧ xs.length ≤ k + 1 ∧ wr.ownsRow w.heap.size 3 1 v xs.length (xs.map (.int .i64)) ∧ Hid (okFrom s (s.size - k) k = validS s) ∧ Below w.heap.size w wr) (fun _ i _ => s.size - (intOf i).toNat)
  case atStart => exact ⟨0, [0], by omega, rfl, by simp, ownsRow_lit _ _ _, Lib.hid rfl, (Below.refl _ _).alloc (Nat.le_refl _) _⟩
  case round =>
    obtain ⟨k, xs, hk, rfl, hxs, hown, HV, hbel⟩ := hrel
    by_cases hlt : k < s.size
    · go_wp2_with fail
      refine (dec_ex s k _ hs' hlt).mono ?_
      rintro e w1 ⟨r, rfl, hb⟩
      have hown1 := ownsRow_below hown hb
      have hbel1 := hbel.trans (hb.mono hbel.size)
      clear hown hbel hb
      by_cases hz : charAt s k = 0
      · have HX := Lib.hid (show validS s = false by rw [← HV.out]; exact okFrom_bad s k hlt hz)
        rw [hz]
        clear hz
        go_wp2_with fail
        go_ret2
        exact ⟨_, by rw [HX.out]; rfl, hbel1⟩
      · have hle := charAt_le hz
        obtain ⟨n, hn⟩ : ∃ n, charAt s k = n := ⟨_, rfl⟩
        have HX := Lib.hid (show okFrom s (s.size - (k + n)) (k + n) = validS s by rw [← HV.out]; exact (okFrom_step s k n hlt hn (by rw [← hn]; exact hz)).symm)
        rw [hn] at hz hle ⊢
        clear hn
        have hn1 : ((n : Int) == 0) = false := by simp; omega
        go_wp2_with (at_builtin; refine wpList_append_own _ rfl _ _ 170 rfl w.heap.size 3 i0 (.int .i64 0) 1 8 Tryz.underlying170 hi hz0 hz1 hz2 rfl (by decide) _ _ _ rfl (hown1.alloc _) ⟨w1.heap.size, 0, none⟩ 1 1 [.int .i64 (k + n)] rfl rfl ?c1 ?c2 ?c3 ?c4 ?c5 ?_)
        case c1 =>
          intro j u hj
          match j, hj with
          | 0, hj => simp at hj; subst hj; simp [Addr.add]
        case c2 => intro u hu; simp at hu; subst hu; rfl
        case c3 => unfold maxLen; omega
        case c4 => omega
        case c5 => have := hbel1.size; simp; omega
        intro v' w2 hown2 hgrow _
        have hbel2 : Below w.heap.size w w2 := (hbel1.alloc hbel1.size _).grown hgrow (by have := hbel1.size; simp; omega) (fun k hk => (hown1.lt k hk).1)
        clear hgrow hown1 hbel1
        have HO := Lib.hid hown2
        clear hown2
        go_wp2
        go_roundw
        case rel => exact ⟨k + n, xs ++ [(k : Int) + (n : Int)], by omega, by go_num, by simp; omega, by simpa using HO.out, HX, hbel2⟩
        case measure => simp [intOf]; omega
    · have HX := Lib.hid (show validS s = true by rw [← HV.out]; exact okFrom_end s k (by omega))
      go_wp2_with fail
      go_ret2
      exact ⟨_, by rw [HX.out]; rfl, hbel⟩
def BolR (b : Bool) (w : World) (e : Ending) (w' : World) : Prop := e = .returned (.bool b) ∧ Below w.heap.size w w'
theorem valid03_ex (s : ByteArray) (w : World) (hs : s.size ≤ 1099511627776) : Calls Tryz.prog 125 #[.string s] w (BolR (validS s) w) := by
  go_enter Tryz.func125, Tryz.ntmps125
  go_wp2_with (go_at_call 136; refine (bounds_ex _ _ hs).mono ?_; rintro e w' ⟨v, rfl, hb⟩)
  go_ret
  exact ⟨rfl, hb⟩
end Go.Proofs.YtfegnmbdgdjkgaaGreatDoor
