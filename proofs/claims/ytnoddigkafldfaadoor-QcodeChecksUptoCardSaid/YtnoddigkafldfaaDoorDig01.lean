/- Numerals and decimals of the program (digits.Valid, digits.Zeros, decimal.Valid): they say yes where the reference does. -/
import Derived.Test.YtnoddigkafldfaaDoorDec02b
import Derived.Test.YtnoddigkafldfaaDoorShelf
namespace Go.Proofs.YtnoddigkafldfaaDoor
open Go.RowKit

def YesR (w : World) (e : Ending) (w' : World) : Prop := e = .returned (.bool true) ∧ w = w'
theorem all_yes (s : ByteArray) (w : World) (hs : s.size ≤ maxLen) (hd : DigS s) : Calls Tryd.prog 51 #[.string s] w (YesR w) := by
  have HD := Lib.hid hd
  clear hd
  unfold maxLen at hs
  go_enter Tryd.func51, Tryd.ntmps51
  go_wp2_with fail
  go_simp
  go_loop [6] (fun i => ∃ k : Nat, k ≤ s.size ∧ i = .int .i64 k) (fun i => s.size - (intOf i).toNat)
  case atStart => exact ⟨0, by omega, rfl⟩
  case round =>
    obtain ⟨k, hk, rfl⟩ := hrel
    by_cases hlt : k < s.size
    · have hb := byteI_eq hlt
      obtain ⟨h1, h2⟩ := HD.out k hlt
      have h3 : ¬ byteI s k < 48 := by omega
      have h4 : ¬ 57 < byteI s k := by omega
      go_wp2_with fail
      go_round
      case rel => exact ⟨k + 1, by omega, by go_num⟩
      case measure => simp [intOf]; omega
    · go_wp2_with fail
      go_ret
      exact ⟨rfl, rfl⟩
theorem dvalid_yes (s : ByteArray) (w : World) (h600 : s.size ≤ 600) (hd : DigS s) (h0 : s.size = 0 ∨ byteI s 0 ≠ 48) : Calls Tryd.prog 41 #[.string s] w (YesR w) := by
  have HD := Lib.hid hd
  clear hd
  have hm : s.size ≤ maxLen := by unfold maxLen; omega
  by_cases hz : s.size = 0
  · have hn := toList_nil hz
    go_enter Tryd.func41, Tryd.ntmps41
    go_wp2_with (go_at_call 51; refine (all_yes _ _ hm HD.out).mono ?_; rintro e w' ⟨rfl, rfl⟩)
    go_ret
    exact ⟨rfl, rfl⟩
  · have hp : 0 < s.size := by omega
    have hn := ne_toList hp
    have hn1 : (s.toList == []) = false := by simp [hn]
    have hn2 : s.toList.isEmpty = false := by simp [hn]
    have hb := byteI_eq hp
    have h48 : byteI s 0 ≠ 48 := h0.resolve_left hz
    have q1 : (byteI s 0 != 48) = true := by simp [h48]
    clear h0 hz h48
    go_enter Tryd.func41, Tryd.ntmps41
    go_wp2_with (go_at_call 51; refine (all_yes _ _ hm HD.out).mono ?_; rintro e w' ⟨rfl, rfl⟩)
    go_ret
    exact ⟨rfl, rfl⟩
theorem trim_same {s : ByteArray} (hp : 0 < s.size) (h48 : byteI s (s.size - 1) ≠ 48) : (⟨(Lib.trimRightB s.data.toList 48).toArray⟩ : ByteArray) = s := by
  have hlt : s.size - 1 < s.size := by omega
  have hlen : s.data.toList.length = s.size := by rw [Array.length_toList]; rfl
  have hx : s[s.size - 1] ≠ 48 := by
    intro e
    rw [← byteI_eq hlt, e] at h48
    exact h48 rfl
  have hl : s.data.toList = s.data.toList.take (s.size - 1) ++ [s[s.size - 1]] := by
    have h1 := (List.take_append_drop (s.size - 1) s.data.toList).symm
    have h2 : s.data.toList.drop (s.size - 1) = [s[s.size - 1]] := by
      rw [List.drop_eq_getElem_cons (by omega), List.drop_eq_nil_of_le (by omega)]
      rfl
    rw [h2] at h1
    exact h1
  have h3 : Lib.trimRightB s.data.toList 48 = s.data.toList := by
    unfold Lib.trimRightB
    rw [hl, List.reverse_append, List.reverse_singleton, List.singleton_append, List.dropWhile_cons_of_neg (by simpa using hx)]
    simp
  rw [h3]
def NoZeroR (w : World) (e : Ending) (w' : World) : Prop := e = .returned (.int .i64 0) ∧ w = w'
theorem dzeros_no (s : ByteArray) (w : World) (hs : s.size ≤ 600) (hp : 0 < s.size) (h48 : byteI s (s.size - 1) ≠ 48) : Calls Tryd.prog 42 #[.string s] w (NoZeroR w) := by
  have ht : (⟨(Lib.trimRightB s.data.toList 48).toArray⟩ : ByteArray) = s := trim_same hp h48
  go_enter Tryd.func42, Tryd.ntmps42
  go_wp2_with fail
  refine (Tryd.strings_TrimRight_one s 48 (by decide) w (by omega)).mono ?_
  rintro e w' ⟨rfl, rfl⟩
  rw [ht]
  go_wp2_with fail
  go_ret
  exact ⟨rfl, rfl⟩
def YesB (w : World) (e : Ending) (w' : World) : Prop := e = .returned (.bool true) ∧ Below w.heap.size w w'
set_option maxRecDepth 100000 in
set_option maxHeartbeats 1600000 in
theorem dec_valid (d : DecD) (w : World) (hv : VDec d) : Calls Tryd.prog 31 #[.agg #[.bool d.neg, .string d.digits, .int .i64 d.exp]] w (YesB w) := by
  rcases hv with ⟨h0, hn, he⟩ | ⟨hp, h120, hdg, hf, hlz, he1, he2⟩
  · have hd := toList_nil h0
    have E1 := eqDEC0 d
    have hB : decB d ⟨false, ⟨#[]⟩, 0⟩ = true := by
      have : (⟨#[]⟩ : ByteArray).toList = [] := toList_nil rfl
      simp [decB, hn, he, hd, this]
    rw [hB] at E1
    have G1 := guardDEC
    clear hB h0
    go_enter Tryd.func31, Tryd.ntmps31
    go_wp2_with fail
    go_ret
    exact ⟨rfl, Below.box _ _⟩
  · have hd := ne_toList hp
    have hd1 : (d.digits.toList == []) = false := by simp [hd]
    have hd2 : d.digits.toList.isEmpty = false := by simp [hd]
    have HD := Lib.hid hdg
    have HL := Lib.hid hlz
    have HF := Lib.hid hf
    clear hdg hlz hf
    go_enter Tryd.func31, Tryd.ntmps31
    go_wp2_with (first
      | (go_at_call 41; refine (dvalid_yes _ _ (by omega) HD.out (.inr HF.out)).mono ?_; rintro e w' ⟨rfl, rfl⟩)
      | (go_at_call 42; refine (dzeros_no _ _ (by omega) hp HL.out).mono ?_; rintro e w' ⟨rfl, rfl⟩))
    go_ret
    exact ⟨rfl, Below.box _ _⟩
end Go.Proofs.YtnoddigkafldfaaDoor
