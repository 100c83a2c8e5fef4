/- Scanning functions of layer 35: where comments, digits, numbers, words and punctuation end: each is a number that hangs on the string and the place alone. -/
import Derived.Test.YtbpdbmjfnbpihaaDoorA

namespace Go.Proofs.YtbpdbmjfnbpihaaDoor
open Go.RowKit

/-- From a place on, step by step as long as P holds, at most so many steps. -/
def skipTo (P : Nat → Bool) : Nat → Nat → Nat
  | 0, n => n
  | f + 1, n => if P n then skipTo P f (n + 1) else n
theorem skipTo_le (P : Nat → Bool) : ∀ f n, skipTo P f n ≤ n + f
  | 0, n => Nat.le_refl _
  | f + 1, n => by
    simp only [skipTo]
    split
    · have := skipTo_le P f (n + 1); omega
    · omega
theorem le_skipTo (P : Nat → Bool) : ∀ f n, n ≤ skipTo P f n
  | 0, n => Nat.le_refl _
  | f + 1, n => by
    simp only [skipTo]
    split
    · have := le_skipTo P f (n + 1); omega
    · omega
theorem skipTo_go {P : Nat → Bool} {m n : Nat} (h : n < m) (hp : P n = true) : skipTo P (m - n) n = skipTo P (m - (n + 1)) (n + 1) := by
  obtain ⟨f, hf⟩ : ∃ f, m - n = f + 1 := ⟨m - n - 1, by omega⟩
  have h2 : m - (n + 1) = f := by omega
  rw [hf, h2, skipTo, if_pos hp]
theorem skipTo_stop {P : Nat → Bool} {m n : Nat} (hp : P n = false) : skipTo P (m - n) n = n := by
  match h : m - n with
  | 0 => rfl
  | f + 1 => rw [skipTo, hp]; simp
theorem skipTo_end {P : Nat → Bool} {m n : Nat} (h : m ≤ n) : skipTo P (m - n) n = n := by
  rw [Nat.sub_eq_zero_of_le h]; rfl

def digitAt (s : ByteArray) (n : Nat) : Bool := if h : n < s.size then digitB s[n].toNat else false
def digEnd (s : ByteArray) (i : Nat) : Nat := skipTo (digitAt s) (s.size - i) i
theorem digEnd_le (s : ByteArray) (i : Nat) (h : i ≤ s.size) : digEnd s i ≤ s.size := by have := skipTo_le (digitAt s) (s.size - i) i; unfold digEnd; omega
theorem le_digEnd (s : ByteArray) (i : Nat) : i ≤ digEnd s i := le_skipTo _ _ _

set_option maxHeartbeats 800000 in
theorem run43 (s : ByteArray) (i : Nat) (w : World) (hs : s.size ≤ maxLen) (hi : i ≤ s.size) :
    Calls Tryd.prog 43 #[.string s, .int .i64 i] w fun e w' => e = .returned (.int .i64 (digEnd s i : Int)) ∧ w = w' := by
  unfold maxLen at hs
  go_enter Tryd.func43, Tryd.ntmps43
  go_wp2_with fail
  go_simp
  go_loop [1] (fun k => ∃ n : Nat, n ≤ s.size ∧ k = .int .i64 n ∧ digEnd s n = digEnd s i) (fun k => s.size - (intOf k).toNat)
  case atStart => exact ⟨i, by omega, rfl, rfl⟩
  case round =>
    obtain ⟨n, hn, rfl, hr⟩ := hrel
    have HR := Lib.hid hr
    clear hr
    by_cases hlt : n < s.size
    · cases hd : digitB s[n].toNat
      · have HZ := Lib.hid (show digEnd s n = n from skipTo_stop (by simp [digitAt, hlt, hd]))
        go_wp2_with (go_at_call 28; refine (digit28 _ _).mono ?_; rintro e w' ⟨rfl, rfl⟩)
        go_ret
        exact ⟨ret_int (by rw [← HR.out, HZ.out]), rfl⟩
      · have HZ := Lib.hid (show digEnd s n = digEnd s (n + 1) from skipTo_go hlt (by simp [digitAt, hlt, hd]))
        go_wp2_with (go_at_call 28; refine (digit28 _ _).mono ?_; rintro e w' ⟨rfl, rfl⟩)
        go_round
        case rel => exact ⟨n + 1, by omega, by go_num, by rw [← HR.out, HZ.out]⟩
        case measure => simp [intOf]; omega
    · have HZ := Lib.hid (show digEnd s n = n from skipTo_end (by omega))
      go_wp2_with fail
      go_ret
      exact ⟨ret_int (by rw [← HR.out, HZ.out]), rfl⟩
end Go.Proofs.YtbpdbmjfnbpihaaDoor
