/- Where comments, words and punctuation end: each hangs on the string and the place alone. -/
import Derived.Test.YtbpdbmjfnbpihaaDoorL2
namespace Go.Proofs.YtbpdbmjfnbpihaaDoor
open Go.RowKit

def preAt (s : ByteArray) (n : Nat) (p : List UInt8) : Bool := Lib.hasPrefix (s.extract n s.size).data.toList p
theorem preAt_lt {s : ByteArray} {n : Nat} {p : List UInt8} (hn : n ≤ s.size) (h : preAt s n p = true) : n + p.length ≤ s.size := by
  unfold preAt Lib.hasPrefix at h
  have h1 := List.IsPrefix.length_le (List.isPrefixOf_iff_prefix.1 h)
  have h2 : (s.extract n s.size).data.toList.length = s.size - n := by
    have : (s.extract n s.size).data.size = (s.extract n s.size).size := rfl
    rw [Array.length_toList, this, ByteArray.size_extract]; omega
  omega
def inComment (s : ByteArray) (n : Nat) : Bool := decide (byteI s n ≠ 10) && !preAt s n [13, 10]
def comEnd (s : ByteArray) (i : Nat) : Nat := skipTo (inComment s) (s.size - i) i
theorem comEnd_le (s : ByteArray) (i : Nat) (h : i ≤ s.size) : comEnd s i ≤ s.size := by have := skipTo_le (inComment s) (s.size - i) i; unfold comEnd; omega
theorem le_comEnd (s : ByteArray) (i : Nat) : i ≤ comEnd s i := le_skipTo _ _ _
theorem prefix_crlf (s : ByteArray) (n : Nat) (w : World) :
    Calls Tryd.prog 25 #[.string (s.extract n s.size), .string ⟨#[13, 10]⟩] w fun e w' => e = .returned (.bool (preAt s n [13, 10])) ∧ w' = w := Tryd.strings_HasPrefix _ _ w
theorem prefix_colons (s : ByteArray) (n : Nat) (w : World) :
    Calls Tryd.prog 25 #[.string (s.extract n s.size), .string ⟨#[58, 58]⟩] w fun e w' => e = .returned (.bool (preAt s n [58, 58])) ∧ w' = w := Tryd.strings_HasPrefix _ _ w

set_option maxHeartbeats 800000 in
theorem comment26 (s : ByteArray) (i : Nat) (w : World) (hs : s.size ≤ maxLen) (hi : i ≤ s.size) :
    Calls Tryd.prog 26 #[.string s, .int .i64 i] w fun e w' => e = .returned (.int .i64 (comEnd s i : Int)) ∧ w = w' := by
  unfold maxLen at hs
  go_enter Tryd.func26, Tryd.ntmps26
  go_wp2_with fail
  go_simp
  go_loop [1] (fun k => ∃ n : Nat, n ≤ s.size ∧ k = .int .i64 n ∧ comEnd s n = comEnd s i) (fun k => s.size - (intOf k).toNat)
  case atStart => exact ⟨i, by omega, rfl, rfl⟩
  case round =>
    obtain ⟨n, hn, rfl, hr⟩ := hrel
    have HR := Lib.hid hr
    clear hr
    by_cases hlt : n < s.size
    · have hb := byteI_eq hlt
      by_cases h10 : byteI s n = 10
      · have HZ := Lib.hid (show comEnd s n = n from skipTo_stop (by simp [inComment, h10]))
        have hc : (byteI s n != 10) = false := by simp [h10]
        go_wp2_with fail
        go_ret
        exact ⟨ret_int (by rw [← HR.out, HZ.out]), rfl⟩
      · have hc : (byteI s n != 10) = true := by simp [h10]
        have hc2 : (byteI s n == 10) = false := by simp [h10]
        cases hp : preAt s n [13, 10]
        · have HZ := Lib.hid (show comEnd s n = comEnd s (n + 1) from skipTo_go hlt (by simp [inComment, h10, hp]))
          go_wp2_with (go_at_call 25; refine (prefix_crlf _ _ _).mono ?_; rintro e w' ⟨rfl, rfl⟩)
          go_round
          case rel => exact ⟨n + 1, by omega, by go_num, by rw [← HR.out, HZ.out]⟩
          case measure => simp [intOf]; omega
        · have HZ := Lib.hid (show comEnd s n = n from skipTo_stop (by simp [inComment, hp]))
          go_wp2_with (go_at_call 25; refine (prefix_crlf _ _ _).mono ?_; rintro e w' ⟨rfl, rfl⟩)
          go_ret
          exact ⟨ret_int (by rw [← HR.out, HZ.out]), rfl⟩
    · have HZ := Lib.hid (show comEnd s n = n from skipTo_end (by omega))
      go_wp2_with fail
      go_ret
      exact ⟨ret_int (by rw [← HR.out, HZ.out]), rfl⟩

theorem name20j (s : ByteArray) (j : Int) (i : Nat) (w : World) (hj : j = i) (hs : s.size ≤ maxLen) (hi : i ≤ s.size) :
    Calls Tryd.prog 20 #[.string s, .int .i64 j] w fun e w' => e = .returned (.int .i64 ((i + nameAt s i : Nat) : Int)) ∧ w = w' := by
  subst hj; exact name20 s i w hs hi
def wordX (s : ByteArray) (k : Nat) : Nat := if preAt s k [58, 58] = true ∧ 0 < nameAt s (k + 2) then k + 2 + nameAt s (k + 2) else k
def wordEnd (s : ByteArray) (i : Nat) : Nat :=
  if byteI s i = 36 then i + (if 0 < nameAt s (i + 1) then 1 + nameAt s (i + 1) else 0)
  else if 0 < nameAt s i then wordX s (i + nameAt s i) else i
theorem wordX_le {s : ByteArray} {k : Nat} (h : k ≤ s.size) : wordX s k ≤ s.size ∧ k ≤ wordX s k := by
  unfold wordX
  split
  case isTrue g =>
    have h1 := preAt_lt h g.1
    have h2 := nameAt_le s (k + 2) (by simpa using h1)
    omega
  case isFalse => omega
theorem wordEnd_le {s : ByteArray} {i : Nat} (h : i < s.size) : wordEnd s i ≤ s.size ∧ i ≤ wordEnd s i := by
  unfold wordEnd
  have h1 := nameAt_le s (i + 1) (by omega)
  have h2 := nameAt_le s i (by omega)
  have h3 := wordX_le h2
  split
  · split <;> omega
  · split <;> omega

set_option maxRecDepth 4000 in
set_option maxHeartbeats 800000 in
theorem word31 (s : ByteArray) (i : Nat) (w : World) (hs : s.size ≤ maxLen) (hlt : i < s.size) :
    Calls Tryd.prog 31 #[.string s, .int .i64 i] w fun e w' => e = .returned (.int .i64 (wordEnd s i : Int)) ∧ w = w' := by
  have HS := hs
  unfold maxLen at hs
  have HW := Lib.hid (show wordEnd s i = if byteI s i = 36 then i + (if 0 < nameAt s (i + 1) then 1 + nameAt s (i + 1) else 0) else if 0 < nameAt s i then wordX s (i + nameAt s i) else i from rfl)
  have hb := byteI_eq hlt
  by_cases h36 : byteI s i = 36
  · have HW2 := Lib.hid (show wordEnd s i = i + (if 0 < nameAt s (i + 1) then 1 + nameAt s (i + 1) else 0) by rw [HW.out, if_pos h36])
    have h1 := nameAt_le s (i + 1) (by omega)
    clear HW
    go_enter Tryd.func31, Tryd.ntmps31
    go_wp2_with (go_at_call 20; refine (name20j _ _ (i + 1) _ (by omega) HS (by omega)).mono ?_; rintro e w' ⟨rfl, rfl⟩)
    all_goals
      go_ret
      refine ⟨ret_int ?_, rfl⟩
      rw [HW2.out]
      split <;> omega
  · have hq : (byteI s i == 36) = false := by simp [h36]
    have h1 := nameAt_le s i (by omega)
    by_cases hn : 0 < nameAt s i
    · have HW2 := Lib.hid (show wordEnd s i = wordX s (i + nameAt s i) by rw [HW.out, if_neg h36, if_pos hn])
      clear HW
      cases hp : preAt s (i + nameAt s i) [58, 58]
      · have HX := Lib.hid (show wordX s (i + nameAt s i) = i + nameAt s i by simp [wordX, hp])
        go_enter Tryd.func31, Tryd.ntmps31
        go_wp2_with (first | (go_at_call 20; refine (name20j _ _ i _ (by omega) HS (by omega)).mono ?_; rintro e w' ⟨rfl, rfl⟩) | (go_at_call 25; refine (prefix_colons _ _ _).mono ?_; rintro e w' ⟨rfl, rfl⟩))
        go_ret
        exact ⟨ret_int (by have a := HW2.out; have b := HX.out; omega), rfl⟩
      · have hk := preAt_lt h1 hp
        simp only [List.length_cons, List.length_nil] at hk
        have h2 := nameAt_le s (i + nameAt s i + 2) (by omega)
        have HX := Lib.hid (show wordX s (i + nameAt s i) = if 0 < nameAt s (i + nameAt s i + 2) then i + nameAt s i + 2 + nameAt s (i + nameAt s i + 2) else i + nameAt s i by simp [wordX, hp])
        go_enter Tryd.func31, Tryd.ntmps31
        go_wp2_with (first
          | (go_at_call 20; refine (name20j _ _ i _ (by omega) HS (by omega)).mono ?_; rintro e w' ⟨rfl, rfl⟩)
          | (go_at_call 20; refine (name20j _ _ (i + nameAt s i + 2) _ (by omega) HS (by omega)).mono ?_; rintro e w' ⟨rfl, rfl⟩)
          | (go_at_call 25; refine (prefix_colons _ _ _).mono ?_; rintro e w' ⟨rfl, rfl⟩))
        all_goals
          go_ret
          refine ⟨ret_int ?_, rfl⟩
          rw [HW2.out, HX.out]
          split <;> omega
    · have HW2 := Lib.hid (show wordEnd s i = i by rw [HW.out, if_neg h36, if_neg hn])
      have hz : nameAt s i = 0 := by omega
      clear HW
      go_enter Tryd.func31, Tryd.ntmps31
      go_wp2_with (go_at_call 20; refine (name20j _ _ i _ (by omega) HS (by omega)).mono ?_; rintro e w' ⟨rfl, rfl⟩)
      go_ret
      exact ⟨ret_int (by have a := HW2.out; omega), rfl⟩
end Go.Proofs.YtbpdbmjfnbpihaaDoor
