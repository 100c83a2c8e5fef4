/- The library's valid UTF-8 (utf8.ValidString) is the plain function validS. No program here. -/
import Derived.Test.YtfegnmbdgdjkgaaGreatCharP
import Derived.Lib.ValidLaws
import Derived.Lib.RuneCountTail
namespace Go.Proofs.YtfegnmbdgdjkgaaGreat
open Go.RowKit

theorem outside_iff (least c : Int) : outside least c = true ↔ c < least ∨ 1114111 < c ∨ (55296 ≤ c ∧ c < 57344) := by
  unfold outside
  simp only [Bool.or_eq_true, Bool.and_eq_true, decide_eq_true_eq]
  omega
theorem charAt_zero_of {s : ByteArray} {p n : Nat} {least c0 c : Int} (h : charAt s p = 0) (hl : lead (byteAt s p) = (n, least, c0)) (hn : n ≠ 0) (hs : p + n ≤ s.size) (hc : conts s p c0 (n - 1) = some c) : c < least ∨ 1114111 < c ∨ (55296 ≤ c ∧ c < 57344) := by
  have h1 := charAt_of hl hn hs hc
  by_cases ho : outside least c = true
  · exact (outside_iff _ _).1 ho
  · rw [if_neg ho, h] at h1
    exact absurd h1.symm hn
set_option maxHeartbeats 3200000 in
theorem decode_bad {s : ByteArray} {p : Nat} (hp : p < s.size) (h : charAt s p = 0) : Utf8.decode s p = (65533, 1) := by
  have hB := byteAt_range s p
  have G0 := get_byte s p hp
  rw [Lib.decode_at]
  have hcase : byteAt s p < 128 ∨ (194 ≤ byteAt s p ∧ byteAt s p < 224) ∨ (224 ≤ byteAt s p ∧ byteAt s p < 240) ∨ (240 ≤ byteAt s p ∧ byteAt s p < 245) ∨ ((128 ≤ byteAt s p ∧ byteAt s p < 194) ∨ 245 ≤ byteAt s p) := by omega
  rcases hcase with g | g | g | g | g
  · have := charAt_zero_of h (lead1 g) (by decide) (by omega) rfl
    omega
  · have hl := lead2 g
    by_cases hs : p + 2 ≤ s.size
    · have G1 := get_byte s (p + 1) (by omega)
      by_cases h1 : 128 ≤ byteAt s (p + 1) ∧ byteAt s (p + 1) < 192
      · have c1 := conts_yes (s := s) (p := p) (k := 0) (c := byteAt s p - 192) rfl h1.1 h1.2
        have := charAt_zero_of h hl (by decide) hs c1
        simp only [Nat.zero_add] at this
        omega
      · have B1 := byteAt_range s (p + 1)
        generalize (s.get! p).toNat = b0 at *
        generalize (s.get! (p + 1)).toNat = b1 at *
        generalize (s.get! (p + 2)).toNat = b2 at *
        generalize (s.get! (p + 3)).toNat = b3 at *
        unfold Lib.decodeN
        rw [if_neg (by omega), if_neg (by omega), if_neg (by omega), if_neg (by omega)]
    · generalize (s.get! p).toNat = b0 at *
      generalize (s.get! (p + 1)).toNat = b1 at *
      generalize (s.get! (p + 2)).toNat = b2 at *
      generalize (s.get! (p + 3)).toNat = b3 at *
      unfold Lib.decodeN
      rw [if_neg (by omega), if_neg (by omega), if_neg (by omega), if_neg (by omega)]
  · have hl := lead3 g
    by_cases hs : p + 3 ≤ s.size
    · have G1 := get_byte s (p + 1) (by omega)
      have G2 := get_byte s (p + 2) (by omega)
      by_cases h1 : (128 ≤ byteAt s (p + 1) ∧ byteAt s (p + 1) < 192) ∧ (128 ≤ byteAt s (p + 2) ∧ byteAt s (p + 2) < 192)
      · have c1 := conts_yes (s := s) (p := p) (k := 0) (c := byteAt s p - 224) rfl h1.1.1 h1.1.2
        have c2 := conts_yes c1 h1.2.1 h1.2.2
        have ho := charAt_zero_of h hl (by decide) hs c2
        simp only [Nat.zero_add] at ho
        rw [show p + (1 + 1) = p + 2 from rfl] at ho
        generalize (s.get! p).toNat = b0 at *
        generalize (s.get! (p + 1)).toNat = b1 at *
        generalize (s.get! (p + 2)).toNat = b2 at *
        generalize (s.get! (p + 3)).toNat = b3 at *
        unfold Lib.decodeN
        rw [if_neg (by omega), if_neg (by omega), if_pos (by omega), if_neg (by omega)]
      · have B1 := byteAt_range s (p + 1)
        have B2 := byteAt_range s (p + 2)
        generalize (s.get! p).toNat = b0 at *
        generalize (s.get! (p + 1)).toNat = b1 at *
        generalize (s.get! (p + 2)).toNat = b2 at *
        generalize (s.get! (p + 3)).toNat = b3 at *
        unfold Lib.decodeN
        rw [if_neg (by omega), if_neg (by omega), if_neg (by omega), if_neg (by omega)]
    · generalize (s.get! p).toNat = b0 at *
      generalize (s.get! (p + 1)).toNat = b1 at *
      generalize (s.get! (p + 2)).toNat = b2 at *
      generalize (s.get! (p + 3)).toNat = b3 at *
      unfold Lib.decodeN
      rw [if_neg (by omega), if_neg (by omega), if_neg (by omega), if_neg (by omega)]
  · have hl := lead4 g
    by_cases hs : p + 4 ≤ s.size
    · have G1 := get_byte s (p + 1) (by omega)
      have G2 := get_byte s (p + 2) (by omega)
      have G3 := get_byte s (p + 3) (by omega)
      by_cases h1 : (128 ≤ byteAt s (p + 1) ∧ byteAt s (p + 1) < 192) ∧ (128 ≤ byteAt s (p + 2) ∧ byteAt s (p + 2) < 192) ∧ (128 ≤ byteAt s (p + 3) ∧ byteAt s (p + 3) < 192)
      · have c1 := conts_yes (s := s) (p := p) (k := 0) (c := byteAt s p - 240) rfl h1.1.1 h1.1.2
        have c2 := conts_yes c1 h1.2.1.1 h1.2.1.2
        have c3 := conts_yes c2 h1.2.2.1 h1.2.2.2
        have ho := charAt_zero_of h hl (by decide) hs c3
        simp only [Nat.zero_add] at ho
        rw [show p + (1 + 1) = p + 2 from rfl, show p + (1 + 1 + 1) = p + 3 from rfl] at ho
        generalize (s.get! p).toNat = b0 at *
        generalize (s.get! (p + 1)).toNat = b1 at *
        generalize (s.get! (p + 2)).toNat = b2 at *
        generalize (s.get! (p + 3)).toNat = b3 at *
        unfold Lib.decodeN
        rw [if_neg (by omega), if_neg (by omega), if_neg (by omega), if_pos (by omega), if_neg (by omega)]
      · have B1 := byteAt_range s (p + 1)
        have B2 := byteAt_range s (p + 2)
        have B3 := byteAt_range s (p + 3)
        generalize (s.get! p).toNat = b0 at *
        generalize (s.get! (p + 1)).toNat = b1 at *
        generalize (s.get! (p + 2)).toNat = b2 at *
        generalize (s.get! (p + 3)).toNat = b3 at *
        unfold Lib.decodeN
        rw [if_neg (by omega), if_neg (by omega), if_neg (by omega), if_neg (by omega)]
    · generalize (s.get! p).toNat = b0 at *
      generalize (s.get! (p + 1)).toNat = b1 at *
      generalize (s.get! (p + 2)).toNat = b2 at *
      generalize (s.get! (p + 3)).toNat = b3 at *
      unfold Lib.decodeN
      rw [if_neg (by omega), if_neg (by omega), if_neg (by omega), if_neg (by omega)]
  · generalize (s.get! p).toNat = b0 at *
    generalize (s.get! (p + 1)).toNat = b1 at *
    generalize (s.get! (p + 2)).toNat = b2 at *
    generalize (s.get! (p + 3)).toNat = b3 at *
    unfold Lib.decodeN
    repeat' split
    all_goals first
      | rfl
      | (exfalso; omega)
theorem decode_good {s : ByteArray} {p : Nat} (h : charAt s p ≠ 0) : ¬ ((Utf8.decode s p).1 = 65533 ∧ (Utf8.decode s p).2 = 1) := by
  rintro ⟨h1, h2⟩
  have h3 := charAt_decode h
  rw [h2] at h3
  obtain ⟨e, hs, hb, _⟩ := charAt_parts h
  have hB := byteAt_range s p
  have G0 := get_byte s p (by omega)
  by_cases g : byteAt s p < 128
  · rw [Lib.decode_at] at h1
    unfold Lib.decodeN at h1
    rw [if_pos (by omega)] at h1
    simp only at h1
    omega
  · have hcase : (194 ≤ byteAt s p ∧ byteAt s p < 224) ∨ (224 ≤ byteAt s p ∧ byteAt s p < 240) ∨ (240 ≤ byteAt s p ∧ byteAt s p < 245) ∨ 245 ≤ byteAt s p := by omega
    rcases hcase with g | g | g | g
    · rw [lead2 g] at e; simp only at e; omega
    · rw [lead3 g] at e; simp only at e; omega
    · rw [lead4 g] at e; simp only at e; omega
    · exact h (charAt_0 (.inr g))
theorem drop_extract (s : ByteArray) (p : Nat) : (⟨(s.data.toList.drop p).toArray⟩ : ByteArray) = s.extract p s.size := by
  apply ByteArray.ext
  rw [ByteArray.data_extract]
  apply Array.ext'
  rw [Array.toList_extract]
  simp only [List.extract_eq_take_drop]
  rw [List.take_of_length_le]
  rw [List.length_drop, Array.length_toList]
  exact Nat.le_refl _
theorem decodeL_drop (s : ByteArray) (p : Nat) : Lib.decodeL (s.data.toList.drop p) = Utf8.decode s p := by
  unfold Lib.decodeL
  rw [drop_extract, Lib.tail_decode, Nat.add_zero]
theorem validD_from (s : ByteArray) : ∀ (f p : Nat), s.size - p ≤ f → p ≤ s.size → Lib.validD (s.data.toList.drop p) = okFrom s (s.size - p) p
  | 0, p, h, hp => by
    have hl : s.data.toList.length = s.size := by rw [Array.length_toList]; rfl
    rw [List.drop_of_length_le (by omega), show s.size - p = 0 by omega]
    rfl
  | f + 1, p, h, hp => by
    have hl : s.data.toList.length = s.size := by rw [Array.length_toList]; rfl
    by_cases he : p = s.size
    · rw [List.drop_of_length_le (by omega), show s.size - p = 0 by omega]
      rfl
    · have hne : s.data.toList.drop p ≠ [] := by
        intro e
        have := congrArg List.length e
        rw [List.length_drop, hl] at this
        simp at this
        omega
      rw [Lib.validD_step _ hne, decodeL_drop]
      by_cases hc : charAt s p = 0
      · rw [decode_bad (by omega) hc, if_pos ⟨rfl, rfl⟩, okFrom_bad s p (by omega) hc]
      · obtain ⟨_, hs, _, _⟩ := charAt_parts hc
        rw [if_neg (decode_good hc), charAt_decode hc, List.drop_drop, validD_from s f (p + charAt s p) (by omega) hs, okFrom_step s p _ (by omega) rfl hc]
theorem validD_eq (s : ByteArray) : Lib.validD s.data.toList = validS s := by
  have := validD_from s s.size 0 (by omega) (by omega)
  rw [List.drop_zero, Nat.sub_zero] at this
  exact this
end Go.Proofs.YtfegnmbdgdjkgaaGreat
