/- The reference's Bad (datakitref35): below 0 just where the string is valid. -/
import Derived.Test.YtbpdbmjfnbpihaaDoorProg
import Derived.WalkKit
import Derived.WalkSpells
import Derived.WalkLawsBesides
import Derived.LoopTactic
import Derived.BigQuiet
import Derived.Deep.QuietTactic
import Derived.Lib.Hide
namespace Go.Proofs.YtbpdbmjfnbpihaaDoor
open Go.RowKit

def byteAt (s : ByteArray) (i : Nat) : Int := ((s.data.toList[i]?).getD 0).toNat
theorem byteAt_eq (s : ByteArray) (i : Nat) (h : i < s.size) : (s[i].toNat : Int) = byteAt s i := by
  have h' : i < s.data.toList.length := by simpa using h
  unfold byteAt
  rw [List.getElem?_eq_getElem h']
  rfl
theorem byteAt_range (s : ByteArray) (i : Nat) : 0 ≤ byteAt s i ∧ byteAt s i ≤ 255 := by
  unfold byteAt
  have := ((s.data.toList[i]?).getD 0).toNat_lt
  omega
/-- How many bytes a character has by its first byte, the least number that they may spell, what the first byte gives. -/
def lead (a : Int) : Nat × Int × Int := if a < 128 then (1, 0, a) else if 194 ≤ a ∧ a < 224 then (2, 128, a - 192) else if 224 ≤ a ∧ a < 240 then (3, 2048, a - 224) else if 240 ≤ a ∧ a < 245 then (4, 65536, a - 240) else (0, 0, 0)
/-- k bytes behind the first one, taken in. -/
def conts (s : ByteArray) (p : Nat) (c : Int) : Nat → Option Int
  | 0 => some c
  | k + 1 => match conts s p c k with
    | none => none
    | some d => if 128 ≤ byteAt s (p + (k + 1)) ∧ byteAt s (p + (k + 1)) < 192 then some (64 * d + byteAt s (p + (k + 1)) - 128) else none
def outside (least c : Int) : Bool := decide (c < least) || decide (1114111 < c) || (decide (55296 ≤ c) && decide (c < 57344))
/-- How many bytes the valid character at p has; 0 if none is there. -/
def charAt (s : ByteArray) (p : Nat) : Nat :=
  if (lead (byteAt s p)).1 = 0 ∨ s.size < p + (lead (byteAt s p)).1 then 0 else
  match conts s p (lead (byteAt s p)).2.2 ((lead (byteAt s p)).1 - 1) with
  | none => 0
  | some c => if outside (lead (byteAt s p)).2.1 c = true then 0 else (lead (byteAt s p)).1
def okFrom (s : ByteArray) : Nat → Nat → Bool
  | 0, _ => true
  | f + 1, p => if s.size ≤ p then true else decide (charAt s p ≠ 0) && okFrom s f (p + charAt s p)
def validS (s : ByteArray) : Bool := okFrom s s.size 0

theorem okFrom_fuel (s : ByteArray) : ∀ (f p : Nat), s.size - p ≤ f → okFrom s f p = okFrom s (s.size - p) p
  | 0, p, h => by rw [show s.size - p = 0 by omega]
  | f + 1, p, h => by
    by_cases hp : s.size ≤ p
    · rw [show s.size - p = 0 by omega]
      simp [okFrom, hp]
    · obtain ⟨g, hg⟩ : ∃ g, s.size - p = g + 1 := ⟨s.size - p - 1, by omega⟩
      rw [hg]
      simp only [okFrom, if_neg hp]
      by_cases hc : charAt s p = 0
      · simp [hc]
      · rw [okFrom_fuel s f (p + charAt s p) (by omega), okFrom_fuel s g (p + charAt s p) (by omega)]
theorem okFrom_step (s : ByteArray) (p n : Nat) (hp : p < s.size) (hn : charAt s p = n) (h0 : n ≠ 0) : okFrom s (s.size - p) p = okFrom s (s.size - (p + n)) (p + n) := by
  obtain ⟨g, hg⟩ : ∃ g, s.size - p = g + 1 := ⟨s.size - p - 1, by omega⟩
  rw [hg]
  simp only [okFrom, if_neg (show ¬ s.size ≤ p by omega)]
  rw [hn, okFrom_fuel s g (p + n) (by omega)]
  simp [h0]
theorem okFrom_bad (s : ByteArray) (p : Nat) (hp : p < s.size) (hn : charAt s p = 0) : okFrom s (s.size - p) p = false := by
  obtain ⟨g, hg⟩ : ∃ g, s.size - p = g + 1 := ⟨s.size - p - 1, by omega⟩
  rw [hg]
  simp [okFrom, hn, show ¬ s.size ≤ p by omega]
theorem okFrom_end (s : ByteArray) (p : Nat) (hp : s.size ≤ p) : okFrom s (s.size - p) p = true := by
  rw [show s.size - p = 0 by omega]; rfl

theorem charAt_of {s : ByteArray} {p n : Nat} {least c0 c : Int} (hl : lead (byteAt s p) = (n, least, c0)) (hn : n ≠ 0) (hs : p + n ≤ s.size) (hc : conts s p c0 (n - 1) = some c) : charAt s p = if outside least c = true then 0 else n := by
  unfold charAt
  rw [hl]
  simp only
  rw [if_neg (by omega), hc]
theorem charAt_short {s : ByteArray} {p n : Nat} {least c0 : Int} (hl : lead (byteAt s p) = (n, least, c0)) (hs : s.size < p + n) : charAt s p = 0 := by
  unfold charAt
  rw [hl]
  simp only
  rw [if_pos (by omega)]
theorem conts_none {s : ByteArray} {p : Nat} {c : Int} : ∀ {k m : Nat}, k ≤ m → conts s p c k = none → conts s p c m = none
  | k, 0, h, hn => by rw [show k = 0 by omega] at hn; exact hn
  | k, m + 1, h, hn => by
    by_cases e : k = m + 1
    · rw [← e]; exact hn
    · simp only [conts]
      rw [conts_none (show k ≤ m by omega) hn]
theorem charAt_cont {s : ByteArray} {p n k : Nat} {least c0 : Int} (hl : lead (byteAt s p) = (n, least, c0)) (hk : k ≤ n - 1) (hc : conts s p c0 k = none) : charAt s p = 0 := by
  unfold charAt
  rw [hl]
  simp only
  rw [conts_none hk hc]
  split <;> rfl

def BadInt (s : ByteArray) (w : World) (e : Ending) (w' : World) : Prop := ∃ k : Int, e = .returned (.int .i64 k) ∧ (k < 0 ↔ validS s = true) ∧ ∃ m, w' = w.drewN m
theorem conts_yes {s : ByteArray} {p k : Nat} {c d : Int} (h : conts s p c k = some d) (h1 : 128 ≤ byteAt s (p + (k + 1))) (h2 : byteAt s (p + (k + 1)) < 192) : conts s p c (k + 1) = some (64 * d + byteAt s (p + (k + 1)) - 128) := by
  simp only [conts]
  rw [h]
  simp only
  rw [if_pos ⟨h1, h2⟩]
theorem conts_no {s : ByteArray} {p k : Nat} {c d : Int} (h : conts s p c k = some d) (h1 : byteAt s (p + (k + 1)) < 128 ∨ 192 ≤ byteAt s (p + (k + 1))) : conts s p c (k + 1) = none := by
  simp only [conts]
  rw [h]
  simp only
  rw [if_neg (by omega)]
theorem outside_no {least c : Int} (h1 : ¬ c < least) (h2 : ¬ 1114111 < c) (h3 : ¬ (55296 ≤ c ∧ c < 57344)) : outside least c = false := by
  simp [outside, h1, h2]
  omega
theorem outside_yes {least c : Int} (h : c < least ∨ 1114111 < c ∨ (55296 ≤ c ∧ c < 57344)) : outside least c = true := by
  simp [outside]
  omega
theorem bad_at {s : ByteArray} {w : World} {p : Nat} {m : Nat} (hp : p < s.size) (hr : okFrom s (s.size - p) p = validS s) (hc : charAt s p = 0) : BadInt s w (.returned (.int .i64 (p : Int))) (w.drewN m) := by
  refine ⟨p, rfl, ⟨fun h => by omega, fun h => ?_⟩, m, rfl⟩
  rw [← hr, okFrom_bad s p hp hc] at h
  cases h

theorem lead1 {a : Int} (h : a < 128) : lead a = (1, 0, a) := by unfold lead; rw [if_pos h]
theorem lead2 {a : Int} (h : 194 ≤ a ∧ a < 224) : lead a = (2, 128, a - 192) := by unfold lead; rw [if_neg (by omega), if_pos h]
theorem lead3 {a : Int} (h : 224 ≤ a ∧ a < 240) : lead a = (3, 2048, a - 224) := by unfold lead; rw [if_neg (by omega), if_neg (by omega), if_pos h]
theorem lead4 {a : Int} (h : 240 ≤ a ∧ a < 245) : lead a = (4, 65536, a - 240) := by unfold lead; rw [if_neg (by omega), if_neg (by omega), if_neg (by omega), if_pos h]
theorem lead0 {a : Int} (h : (128 ≤ a ∧ a < 194) ∨ 245 ≤ a) : lead a = (0, 0, 0) := by unfold lead; rw [if_neg (by omega), if_neg (by omega), if_neg (by omega), if_neg (by omega)]
theorem charAt_0 {s : ByteArray} {p : Nat} (h : (128 ≤ byteAt s p ∧ byteAt s p < 194) ∨ 245 ≤ byteAt s p) : charAt s p = 0 := by
  unfold charAt
  rw [lead0 h]
  simp
set_option maxRecDepth 100000 in
set_option maxHeartbeats 3200000 in
theorem bad35 (s : ByteArray) (w : World) (hs : s.size ≤ 1099511627776) : Calls Tryd.prog 15 #[.string s] w (BadInt s w) := by
  go_enter Tryd.func15, Tryd.ntmps15
  go_wp2_with fail
  go_loopw [3] (fun i wr => ∃ p : Nat, p ≤ s.size ∧ i = .int .i64 p ∧ okFrom s (s.size - p) p = validS s ∧ ∃ m, wr = w.drewN m) (fun i _ => s.size - (intOf i).toNat)
  case atStart => exact ⟨0, by omega, rfl, rfl, 0, rfl⟩
  case round =>
    obtain ⟨p, hp, rfl, hr, m, rfl⟩ := hrel
    have HR := Lib.hid hr
    clear hr
    by_cases hlt : p < s.size
    · have hb0 := byteAt_eq s p hlt
      obtain ⟨hb1, hb2⟩ := byteAt_range s p
      have hcls : byteAt s p < 128 ∨ (194 ≤ byteAt s p ∧ byteAt s p < 224) ∨ (224 ≤ byteAt s p ∧ byteAt s p < 240) ∨ (240 ≤ byteAt s p ∧ byteAt s p < 245) ∨ (128 ≤ byteAt s p ∧ byteAt s p < 194) ∨ 245 ≤ byteAt s p := by omega
      rcases hcls with h1 | ⟨h1, h2⟩ | ⟨h1, h2⟩ | ⟨h1, h2⟩ | ⟨h1, h2⟩ | h1
      · have hl : lead (byteAt s p) = (1, 0, byteAt s p) := lead1 h1
        have HL := Lib.hid hl
        clear hl
        go_wp2_with fail
        go_quiet (fail)
        go_wp2_with fail
        go_simp
        go_loopw [6, 7] (fun c i wr => ∃ (d : Int) (k : Nat), k + 1 ≤ 1 ∧ i = .int .i64 ((k : Int) + 1) ∧ c = .int .i64 d ∧ 0 ≤ d ∧ ((k = 0 ∧ d ≤ 127) ∨ (k = 1 ∧ d ≤ 8191) ∨ (k = 2 ∧ d ≤ 524287) ∨ (k = 3 ∧ d ≤ 33554431)) ∧ conts s p (byteAt s p) k = some d ∧ ∃ q, wr = w.drewN q) (fun _ i _ => 1 - (intOf i).toNat)
        case atStart => exact ⟨_, 0, by omega, by simp, rfl, by omega, by omega, rfl, _, rfl⟩
        case round =>
          obtain ⟨d, k, hk, rfl, rfl, hd0, hd1, hc, q, rfl⟩ := hrel
          have HC := Lib.hid hc
          clear hc
          obtain rfl : k = 0 := by omega
          have hd9 : d ≤ 33554431 := by omega
          by_cases ho : d < 0 ∨ 1114111 < d ∨ (55296 ≤ d ∧ d < 57344)
          · have HX := Lib.hid (show charAt s p = 0 by rw [charAt_of HL.out (by omega) (by omega) HC.out, if_pos (outside_yes ho)])
            rcases ho with ho | ho | ⟨ho, ho2⟩
            all_goals
              go_wp2_with fail
              all_goals
                go_ret
                exact bad_at hlt HR.out HX.out
          · have HX := Lib.hid (show charAt s p = 1 by rw [charAt_of HL.out (by omega) (by omega) HC.out, if_neg (by rw [outside_no (by omega) (by omega) (by omega)]; simp)])
            go_wp2_with fail
            all_goals
              go_roundw
              case rel => exact ⟨p + 1, by omega, by go_num, by rw [← HR.out]; exact (okFrom_step s p 1 hlt HX.out (by omega)).symm, _, rfl⟩
              case measure => simp [intOf]; omega
      · have hl : lead (byteAt s p) = (2, 128, byteAt s p - 192) := lead2 ⟨h1, h2⟩
        have HL := Lib.hid hl
        clear hl
        by_cases hsz : p + 2 ≤ s.size
        · go_wp2_with fail
          go_quiet (fail)
          go_wp2_with fail
          go_simp
          go_loopw [6, 7] (fun c i wr => ∃ (d : Int) (k : Nat), k + 1 ≤ 2 ∧ i = .int .i64 ((k : Int) + 1) ∧ c = .int .i64 d ∧ 0 ≤ d ∧ ((k = 0 ∧ d ≤ 127) ∨ (k = 1 ∧ d ≤ 8191) ∨ (k = 2 ∧ d ≤ 524287) ∨ (k = 3 ∧ d ≤ 33554431)) ∧ conts s p (byteAt s p - 192) k = some d ∧ ∃ q, wr = w.drewN q) (fun _ i _ => 2 - (intOf i).toNat)
          case atStart => exact ⟨_, 0, by omega, by simp, rfl, by omega, by omega, rfl, _, rfl⟩
          case round =>
            obtain ⟨d, k, hk, rfl, rfl, hd0, hd1, hc, q, rfl⟩ := hrel
            have HC := Lib.hid hc
            clear hc
            by_cases hkn : k + 1 < 2
            · have hlt2 : p + (k + 1) < s.size := by omega
              have hb3 := byteAt_eq s (p + (k + 1)) hlt2
              obtain ⟨hb4, hb5⟩ := byteAt_range s (p + (k + 1))
              by_cases hc1 : byteAt s (p + (k + 1)) < 128
              · have HX := Lib.hid (charAt_cont HL.out (by omega) (conts_no HC.out (.inl hc1)))
                go_wp2_with fail
                go_ret
                exact bad_at hlt HR.out HX.out
              · by_cases hc2 : 192 ≤ byteAt s (p + (k + 1))
                · have HX := Lib.hid (charAt_cont HL.out (by omega) (conts_no HC.out (.inr hc2)))
                  go_wp2_with fail
                  go_ret
                  exact bad_at hlt HR.out HX.out
                · have HY := Lib.hid (conts_yes HC.out (by omega) (by omega))
                  go_wp2_with fail
                  go_roundw
                  case rel => exact ⟨_, k + 1, by omega, by go_num, rfl, by omega, by omega, HY.out, _, rfl⟩
                  case measure => simp [intOf]; omega
            · obtain rfl : k = 1 := by omega
              clear hkn
              have hd9 : d ≤ 33554431 := by omega
              by_cases ho : d < 128 ∨ 1114111 < d ∨ (55296 ≤ d ∧ d < 57344)
              · have HX := Lib.hid (show charAt s p = 0 by rw [charAt_of HL.out (by omega) (by omega) HC.out, if_pos (outside_yes ho)])
                rcases ho with ho | ho | ⟨ho, ho2⟩
                all_goals
                  go_wp2_with fail
                  all_goals
                    go_ret
                    exact bad_at hlt HR.out HX.out
              · have HX := Lib.hid (show charAt s p = 2 by rw [charAt_of HL.out (by omega) (by omega) HC.out, if_neg (by rw [outside_no (by omega) (by omega) (by omega)]; simp)])
                go_wp2_with fail
                all_goals
                  go_roundw
                  case rel => exact ⟨p + 2, by omega, by go_num, by rw [← HR.out]; exact (okFrom_step s p 2 hlt HX.out (by omega)).symm, _, rfl⟩
                  case measure => simp [intOf]; omega
        · have HX := Lib.hid (charAt_short HL.out (by omega))
          go_wp2_with fail
          go_quiet (fail)
          go_wp2_with fail
          go_ret
          exact bad_at hlt HR.out HX.out
      · have hl : lead (byteAt s p) = (3, 2048, byteAt s p - 224) := lead3 ⟨h1, h2⟩
        have HL := Lib.hid hl
        clear hl
        by_cases hsz : p + 3 ≤ s.size
        · go_wp2_with fail
          go_quiet (fail)
          go_wp2_with fail
          go_simp
          go_loopw [6, 7] (fun c i wr => ∃ (d : Int) (k : Nat), k + 1 ≤ 3 ∧ i = .int .i64 ((k : Int) + 1) ∧ c = .int .i64 d ∧ 0 ≤ d ∧ ((k = 0 ∧ d ≤ 127) ∨ (k = 1 ∧ d ≤ 8191) ∨ (k = 2 ∧ d ≤ 524287) ∨ (k = 3 ∧ d ≤ 33554431)) ∧ conts s p (byteAt s p - 224) k = some d ∧ ∃ q, wr = w.drewN q) (fun _ i _ => 3 - (intOf i).toNat)
          case atStart => exact ⟨_, 0, by omega, by simp, rfl, by omega, by omega, rfl, _, rfl⟩
          case round =>
            obtain ⟨d, k, hk, rfl, rfl, hd0, hd1, hc, q, rfl⟩ := hrel
            have HC := Lib.hid hc
            clear hc
            by_cases hkn : k + 1 < 3
            · have hlt2 : p + (k + 1) < s.size := by omega
              have hb3 := byteAt_eq s (p + (k + 1)) hlt2
              obtain ⟨hb4, hb5⟩ := byteAt_range s (p + (k + 1))
              by_cases hc1 : byteAt s (p + (k + 1)) < 128
              · have HX := Lib.hid (charAt_cont HL.out (by omega) (conts_no HC.out (.inl hc1)))
                go_wp2_with fail
                go_ret
                exact bad_at hlt HR.out HX.out
              · by_cases hc2 : 192 ≤ byteAt s (p + (k + 1))
                · have HX := Lib.hid (charAt_cont HL.out (by omega) (conts_no HC.out (.inr hc2)))
                  go_wp2_with fail
                  go_ret
                  exact bad_at hlt HR.out HX.out
                · have HY := Lib.hid (conts_yes HC.out (by omega) (by omega))
                  go_wp2_with fail
                  go_roundw
                  case rel => exact ⟨_, k + 1, by omega, by go_num, rfl, by omega, by omega, HY.out, _, rfl⟩
                  case measure => simp [intOf]; omega
            · obtain rfl : k = 2 := by omega
              clear hkn
              have hd9 : d ≤ 33554431 := by omega
              by_cases ho : d < 2048 ∨ 1114111 < d ∨ (55296 ≤ d ∧ d < 57344)
              · have HX := Lib.hid (show charAt s p = 0 by rw [charAt_of HL.out (by omega) (by omega) HC.out, if_pos (outside_yes ho)])
                rcases ho with ho | ho | ⟨ho, ho2⟩
                all_goals
                  go_wp2_with fail
                  all_goals
                    go_ret
                    exact bad_at hlt HR.out HX.out
              · have HX := Lib.hid (show charAt s p = 3 by rw [charAt_of HL.out (by omega) (by omega) HC.out, if_neg (by rw [outside_no (by omega) (by omega) (by omega)]; simp)])
                go_wp2_with fail
                all_goals
                  go_roundw
                  case rel => exact ⟨p + 3, by omega, by go_num, by rw [← HR.out]; exact (okFrom_step s p 3 hlt HX.out (by omega)).symm, _, rfl⟩
                  case measure => simp [intOf]; omega
        · have HX := Lib.hid (charAt_short HL.out (by omega))
          go_wp2_with fail
          go_quiet (fail)
          go_wp2_with fail
          go_ret
          exact bad_at hlt HR.out HX.out
      · have hl : lead (byteAt s p) = (4, 65536, byteAt s p - 240) := lead4 ⟨h1, h2⟩
        have HL := Lib.hid hl
        clear hl
        by_cases hsz : p + 4 ≤ s.size
        · go_wp2_with fail
          go_quiet (fail)
          go_wp2_with fail
          go_simp
          go_loopw [6, 7] (fun c i wr => ∃ (d : Int) (k : Nat), k + 1 ≤ 4 ∧ i = .int .i64 ((k : Int) + 1) ∧ c = .int .i64 d ∧ 0 ≤ d ∧ ((k = 0 ∧ d ≤ 127) ∨ (k = 1 ∧ d ≤ 8191) ∨ (k = 2 ∧ d ≤ 524287) ∨ (k = 3 ∧ d ≤ 33554431)) ∧ conts s p (byteAt s p - 240) k = some d ∧ ∃ q, wr = w.drewN q) (fun _ i _ => 4 - (intOf i).toNat)
          case atStart => exact ⟨_, 0, by omega, by simp, rfl, by omega, by omega, rfl, _, rfl⟩
          case round =>
            obtain ⟨d, k, hk, rfl, rfl, hd0, hd1, hc, q, rfl⟩ := hrel
            have HC := Lib.hid hc
            clear hc
            by_cases hkn : k + 1 < 4
            · have hlt2 : p + (k + 1) < s.size := by omega
              have hb3 := byteAt_eq s (p + (k + 1)) hlt2
              obtain ⟨hb4, hb5⟩ := byteAt_range s (p + (k + 1))
              by_cases hc1 : byteAt s (p + (k + 1)) < 128
              · have HX := Lib.hid (charAt_cont HL.out (by omega) (conts_no HC.out (.inl hc1)))
                go_wp2_with fail
                go_ret
                exact bad_at hlt HR.out HX.out
              · by_cases hc2 : 192 ≤ byteAt s (p + (k + 1))
                · have HX := Lib.hid (charAt_cont HL.out (by omega) (conts_no HC.out (.inr hc2)))
                  go_wp2_with fail
                  go_ret
                  exact bad_at hlt HR.out HX.out
                · have HY := Lib.hid (conts_yes HC.out (by omega) (by omega))
                  go_wp2_with fail
                  go_roundw
                  case rel => exact ⟨_, k + 1, by omega, by go_num, rfl, by omega, by omega, HY.out, _, rfl⟩
                  case measure => simp [intOf]; omega
            · obtain rfl : k = 3 := by omega
              clear hkn
              have hd9 : d ≤ 33554431 := by omega
              by_cases ho : d < 65536 ∨ 1114111 < d ∨ (55296 ≤ d ∧ d < 57344)
              · have HX := Lib.hid (show charAt s p = 0 by rw [charAt_of HL.out (by omega) (by omega) HC.out, if_pos (outside_yes ho)])
                rcases ho with ho | ho | ⟨ho, ho2⟩
                all_goals
                  go_wp2_with fail
                  all_goals
                    go_ret
                    exact bad_at hlt HR.out HX.out
              · have HX := Lib.hid (show charAt s p = 4 by rw [charAt_of HL.out (by omega) (by omega) HC.out, if_neg (by rw [outside_no (by omega) (by omega) (by omega)]; simp)])
                go_wp2_with fail
                all_goals
                  go_roundw
                  case rel => exact ⟨p + 4, by omega, by go_num, by rw [← HR.out]; exact (okFrom_step s p 4 hlt HX.out (by omega)).symm, _, rfl⟩
                  case measure => simp [intOf]; omega
        · have HX := Lib.hid (charAt_short HL.out (by omega))
          go_wp2_with fail
          go_quiet (fail)
          go_wp2_with fail
          go_ret
          exact bad_at hlt HR.out HX.out
      · have HX := Lib.hid (charAt_0 (.inl ⟨h1, h2⟩))
        go_wp2_with fail
        go_quiet (fail)
        go_wp2_with fail
        go_ret
        exact bad_at hlt HR.out HX.out
      · have HX := Lib.hid (charAt_0 (.inr h1))
        go_wp2_with fail
        go_quiet (fail)
        go_wp2_with fail
        go_ret
        exact bad_at hlt HR.out HX.out
    · have HE := Lib.hid (show validS s = true by rw [← HR.out]; exact okFrom_end s p (by omega))
      go_wp2_with fail
      go_ret
      exact ⟨-1, rfl, ⟨fun _ => HE.out, fun _ => by omega⟩, m, rfl⟩
end Go.Proofs.YtbpdbmjfnbpihaaDoor
