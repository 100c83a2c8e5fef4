/- Letters, digits and names of layer 35: what letter, digit, name, follows, Name compute. -/
import Derived.Test.YtbpdbmjfnbpihaaDoorProg
import Derived.WalkKit
import Derived.WalkSpells
import Derived.WalkLawsBesides
import Derived.LoopTactic
import Derived.BigQuiet
import Derived.Deep.QuietTactic
import Derived.Lib.Hide
namespace Go.Proofs.YtbpdbmjfnbpihaaDoor
open Go.RowKit

theorem ret_bool {a b : Bool} (h : a = b) : Ending.returned (.bool a) = .returned (.bool b) := by rw [h]
theorem ret_int {k : IntKind} {a b : Int} (h : a = b) : Ending.returned (.int k a) = .returned (.int k b) := by rw [h]

def letterB (c : Int) : Bool := decide (65 ≤ c ∧ c ≤ 90) || decide (97 ≤ c ∧ c ≤ 122) || decide (c = 95)
def digitB (c : Int) : Bool := decide (48 ≤ c ∧ c ≤ 57)

theorem letter30 (c : Int) (w : World) : Calls Tryd.prog 30 #[.int .u8 c] w fun e w' => e = .returned (.bool (letterB c)) ∧ w = w' := by
  have HL := Lib.hid (show letterB c = (decide (65 ≤ c ∧ c ≤ 90) || decide (97 ≤ c ∧ c ≤ 122) || decide (c = 95)) from rfl)
  go_enter Tryd.func30, Tryd.ntmps30
  go_wp2
  all_goals
    go_ret
    refine ⟨ret_bool ?_, rfl⟩
    rw [HL.out, Bool.eq_iff_iff]
    first | (simp; done) | (simp; omega)
theorem letter46 (c : Int) (w : World) : Calls Tryd.prog 46 #[.int .u8 c] w fun e w' => e = .returned (.bool (letterB c)) ∧ w = w' := by
  have HL := Lib.hid (show letterB c = (decide (65 ≤ c ∧ c ≤ 90) || decide (97 ≤ c ∧ c ≤ 122) || decide (c = 95)) from rfl)
  go_enter Tryd.func46, Tryd.ntmps46
  go_wp2
  all_goals
    go_ret
    refine ⟨ret_bool ?_, rfl⟩
    rw [HL.out, Bool.eq_iff_iff]
    first | (simp; done) | (simp; omega)
theorem digit28 (c : Int) (w : World) : Calls Tryd.prog 28 #[.int .u8 c] w fun e w' => e = .returned (.bool (digitB c)) ∧ w = w' := by
  have HL := Lib.hid (show digitB c = decide (48 ≤ c ∧ c ≤ 57) from rfl)
  go_enter Tryd.func28, Tryd.ntmps28
  go_wp2
  all_goals
    go_ret
    refine ⟨ret_bool ?_, rfl⟩
    rw [HL.out, Bool.eq_iff_iff]
    first | (simp; done) | (simp; omega)
theorem digit47 (c : Int) (w : World) : Calls Tryd.prog 47 #[.int .u8 c] w fun e w' => e = .returned (.bool (digitB c)) ∧ w = w' := by
  have HL := Lib.hid (show digitB c = decide (48 ≤ c ∧ c ≤ 57) from rfl)
  go_enter Tryd.func47, Tryd.ntmps47
  go_wp2
  all_goals
    go_ret
    refine ⟨ret_bool ?_, rfl⟩
    rw [HL.out, Bool.eq_iff_iff]
    first | (simp; done) | (simp; omega)

def ld (c : UInt8) : Bool := letterB c.toNat || digitB c.toNat
/-- How many letters and digits stand from k on. -/
def runAt (s : ByteArray) (k : Nat) : Nat := ((s.data.toList.drop k).takeWhile ld).length
/-- How many bytes the name has that begins at k; 0 if none does. -/
def nameAt (s : ByteArray) (k : Nat) : Nat := match s.data.toList.drop k with | [] => 0 | c :: _ => if letterB c.toNat then runAt s k else 0

theorem drop_at (s : ByteArray) (k : Nat) (h : k < s.size) : s.data.toList.drop k = s[k] :: s.data.toList.drop (k + 1) := by
  rw [List.drop_eq_getElem_cons (by simpa using h)]
  rfl
theorem drop_end (s : ByteArray) (k : Nat) (h : s.size ≤ k) : s.data.toList.drop k = [] := List.drop_eq_nil_of_le (by simpa using h)

theorem runAt_end (s : ByteArray) (k : Nat) (h : s.size ≤ k) : runAt s k = 0 := by simp [runAt, drop_end s k h]
theorem runAt_stop (s : ByteArray) (k : Nat) (h : k < s.size) (h1 : letterB s[k].toNat = false) (h2 : digitB s[k].toNat = false) : runAt s k = 0 := by
  simp [runAt, drop_at s k h, ld, h1, h2]
theorem runAt_letter (s : ByteArray) (k : Nat) (h : k < s.size) (h1 : letterB s[k].toNat = true) : runAt s k = 1 + runAt s (k + 1) := by
  simp [runAt, drop_at s k h, ld, h1, Nat.add_comm]
theorem runAt_digit (s : ByteArray) (k : Nat) (h : k < s.size) (h1 : digitB s[k].toNat = true) : runAt s k = 1 + runAt s (k + 1) := by
  simp [runAt, drop_at s k h, ld, h1, Nat.add_comm]
theorem runAt_le (s : ByteArray) (k : Nat) (h : k ≤ s.size) : k + runAt s k ≤ s.size := by
  have h1 : ((s.data.toList.drop k).takeWhile ld).length ≤ (s.data.toList.drop k).length := (List.takeWhile_prefix ld).length_le
  simp at h1
  unfold runAt
  have : s.data.size = s.size := rfl
  omega
theorem nameAt_end (s : ByteArray) (k : Nat) (h : s.size ≤ k) : nameAt s k = 0 := by simp [nameAt, drop_end s k h]
theorem nameAt_letter (s : ByteArray) (k : Nat) (h : k < s.size) (h1 : letterB s[k].toNat = true) : nameAt s k = runAt s k := by
  simp [nameAt, drop_at s k h, h1]
theorem nameAt_none (s : ByteArray) (k : Nat) (h : k < s.size) (h1 : letterB s[k].toNat = false) : nameAt s k = 0 := by
  simp [nameAt, drop_at s k h, h1]
theorem nameAt_le (s : ByteArray) (k : Nat) (h : k ≤ s.size) : k + nameAt s k ≤ s.size := by
  by_cases h0 : k < s.size
  · cases h1 : letterB s[k].toNat
    · rw [nameAt_none s k h0 h1]; omega
    · rw [nameAt_letter s k h0 h1]; exact runAt_le s k h
  · rw [nameAt_end s k (by omega)]; omega

set_option maxHeartbeats 800000 in
theorem name20 (s : ByteArray) (i : Nat) (w : World) (hs : s.size ≤ maxLen) (hi : i ≤ s.size) :
    Calls Tryd.prog 20 #[.string s, .int .i64 i] w fun e w' => e = .returned (.int .i64 ((i + nameAt s i : Nat) : Int)) ∧ w = w' := by
  unfold maxLen at hs
  by_cases h0 : i < s.size
  · cases h1 : letterB s[i].toNat
    · have HN := Lib.hid (nameAt_none s i h0 h1)
      go_enter Tryd.func20, Tryd.ntmps20
      go_wp2_with (go_at_call 30; refine (letter30 _ _).mono ?_; rintro e w' ⟨rfl, rfl⟩)
      go_ret
      exact ⟨ret_int (by have a := HN.out; omega), rfl⟩
    · have HN := Lib.hid (nameAt_letter s i h0 h1)
      go_enter Tryd.func20, Tryd.ntmps20
      go_wp2_with (go_at_call 30; refine (letter30 _ _).mono ?_; rintro e w' ⟨rfl, rfl⟩)
      go_simp
      go_loop [1] (fun k => ∃ n : Nat, n ≤ s.size ∧ k = .int .i64 n ∧ n + runAt s n = i + runAt s i) (fun k => s.size - (intOf k).toNat)
      case atStart => exact ⟨i, by omega, rfl, rfl⟩
      case round =>
        obtain ⟨n, hn, rfl, hr⟩ := hrel
        have HR := Lib.hid hr
        clear hr h1
        by_cases hlt : n < s.size
        · cases hl : letterB s[n].toNat
          · cases hd : digitB s[n].toNat
            · have HZ := Lib.hid (runAt_stop s n hlt hl hd)
              go_wp2_with (first | (go_at_call 30; refine (letter30 _ _).mono ?_; rintro e w' ⟨rfl, rfl⟩) | (go_at_call 28; refine (digit28 _ _).mono ?_; rintro e w' ⟨rfl, rfl⟩))
              go_ret
              exact ⟨ret_int (by have a := HN.out; have b := HR.out; have c := HZ.out; omega), rfl⟩
            · have HZ := Lib.hid (runAt_digit s n hlt hd)
              go_wp2_with (first | (go_at_call 30; refine (letter30 _ _).mono ?_; rintro e w' ⟨rfl, rfl⟩) | (go_at_call 28; refine (digit28 _ _).mono ?_; rintro e w' ⟨rfl, rfl⟩))
              go_round
              case rel => exact ⟨n + 1, by omega, by go_num, by rw [← HR.out, HZ.out]; omega⟩
              case measure => simp [intOf]; omega
          · have HZ := Lib.hid (runAt_letter s n hlt hl)
            go_wp2_with (first | (go_at_call 30; refine (letter30 _ _).mono ?_; rintro e w' ⟨rfl, rfl⟩) | (go_at_call 28; refine (digit28 _ _).mono ?_; rintro e w' ⟨rfl, rfl⟩))
            go_round
            case rel => exact ⟨n + 1, by omega, by go_num, by rw [← HR.out, HZ.out]; omega⟩
            case measure => simp [intOf]; omega
        · have HZ := Lib.hid (runAt_end s n (by omega))
          go_wp2_with fail
          go_ret
          exact ⟨ret_int (by have a := HN.out; have b := HR.out; have c := HZ.out; omega), rfl⟩
  · have HN := Lib.hid (nameAt_end s i (by omega))
    go_enter Tryd.func20, Tryd.ntmps20
    go_wp2_with fail
    go_ret
    exact ⟨ret_int (by have a := HN.out; omega), rfl⟩

set_option maxHeartbeats 800000 in
theorem follows35 (s : ByteArray) (w : World) (hs : s.size ≤ maxLen) :
    Calls Tryd.prog 35 #[.string s] w fun e w' => e = .returned (.int .i64 (nameAt s 0 : Int)) ∧ w = w' := by
  unfold maxLen at hs
  go_enter Tryd.func35, Tryd.ntmps35
  go_wp2_with fail
  go_loop [3] (fun k => ∃ n : Nat, n ≤ s.size ∧ k = .int .i64 n ∧ (n = 0 ∨ n + runAt s n = nameAt s 0)) (fun k => s.size - (intOf k).toNat)
  case atStart => exact ⟨0, by omega, rfl, .inl rfl⟩
  case round =>
    obtain ⟨n, hn, rfl, hr⟩ := hrel
    by_cases hlt : n < s.size
    · cases hl : letterB s[n].toNat
      · by_cases hz : n = 0
        · subst hz
          have HZ := Lib.hid (nameAt_none s 0 hlt hl)
          clear hr
          go_wp2_with (first | (go_at_call 46; refine (letter46 _ _).mono ?_; rintro e w' ⟨rfl, rfl⟩) | (go_at_call 47; refine (digit47 _ _).mono ?_; rintro e w' ⟨rfl, rfl⟩))
          go_ret
          exact ⟨ret_int (by have c := HZ.out; omega), rfl⟩
        · have HR := Lib.hid (show n + runAt s n = nameAt s 0 by omega)
          clear hr
          have hpos : 0 < n := by omega
          cases hd : digitB s[n].toNat
          · have HZ := Lib.hid (runAt_stop s n hlt hl hd)
            go_wp2_with (first | (go_at_call 46; refine (letter46 _ _).mono ?_; rintro e w' ⟨rfl, rfl⟩) | (go_at_call 47; refine (digit47 _ _).mono ?_; rintro e w' ⟨rfl, rfl⟩))
            go_ret
            exact ⟨ret_int (by have b := HR.out; have c := HZ.out; omega), rfl⟩
          · have HZ := Lib.hid (runAt_digit s n hlt hd)
            go_wp2_with (first | (go_at_call 46; refine (letter46 _ _).mono ?_; rintro e w' ⟨rfl, rfl⟩) | (go_at_call 47; refine (digit47 _ _).mono ?_; rintro e w' ⟨rfl, rfl⟩))
            go_round
            case rel => exact ⟨n + 1, by omega, by go_num, .inr (by have b := HR.out; have c := HZ.out; omega)⟩
            case measure => simp [intOf]; omega
      · have HZ := Lib.hid (runAt_letter s n hlt hl)
        have HR := Lib.hid (show n + runAt s n = nameAt s 0 from by
          rcases hr with rfl | hr
          · rw [nameAt_letter s 0 hlt hl]; omega
          · exact hr)
        clear hr
        go_wp2_with (first | (go_at_call 46; refine (letter46 _ _).mono ?_; rintro e w' ⟨rfl, rfl⟩) | (go_at_call 47; refine (digit47 _ _).mono ?_; rintro e w' ⟨rfl, rfl⟩))
        go_round
        case rel => exact ⟨n + 1, by omega, by go_num, .inr (by have b := HR.out; have c := HZ.out; omega)⟩
        case measure => simp [intOf]; omega
    · have HZ := Lib.hid (show (n : Int) = nameAt s 0 from by
        have := runAt_end s n (by omega)
        rcases hr with rfl | hr
        · rw [nameAt_end s 0 (by omega)]
        · omega)
      clear hr
      go_wp2_with fail
      go_ret
      exact ⟨ret_int (by have c := HZ.out; omega), rfl⟩

def nameB (s : ByteArray) : Bool := decide (0 < s.size) && nameAt s 0 == s.size
end Go.Proofs.YtbpdbmjfnbpihaaDoor
