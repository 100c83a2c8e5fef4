/- What a character's bytes are and what a number's bytes are: when they agree. No program here. -/
import Derived.Test.YtfegnmbdgdjkgaaGreatDoorUtf8D
import Derived.Laws.BytesArg
import Derived.WalkKit
import Derived.WalkSpells
namespace Go.Proofs.YtfegnmbdgdjkgaaGreatDoor
open Go.RowKit

/-- The bytes of a character. -/
def encL (r : Int) : List Int :=
  if r < 128 then [r] else if r < 2048 then [192 + r / 64, 128 + r % 64] else if r < 65536 then [224 + r / 4096, 128 + r / 64 % 64, 128 + r % 64] else [240 + r / 262144, 128 + r / 4096 % 64, 128 + r / 64 % 64, 128 + r % 64]
/-- The number that bytes spell, whatever their first two bits are. -/
def mix (s : ByteArray) (p : Nat) (c : Int) : Nat → Int
  | 0 => c
  | k + 1 => mix s p c k * 64 + byteAt s (p + (k + 1)) % 64
theorem mix_range {s : ByteArray} {p : Nat} {c : Int} : ∀ k : Nat, c * 64 ^ k ≤ mix s p c k ∧ mix s p c k < (c + 1) * 64 ^ k
  | 0 => by simp [mix]; omega
  | k + 1 => by
    obtain ⟨h1, h2⟩ := mix_range (s := s) (p := p) (c := c) k
    simp only [mix]
    rw [Int.pow_succ, ← Int.mul_assoc, ← Int.mul_assoc]
    generalize (c * 64 ^ k : Int) = A at *
    generalize ((c + 1) * 64 ^ k : Int) = C at *
    omega
def isChar (r : Int) : Prop := 0 ≤ r ∧ r ≤ 1114111 ∧ (r < 55296 ∨ 57343 < r)
theorem enc1 {r : Int} (h : r < 128) : encL r = [r] := by unfold encL; rw [if_pos h]
theorem enc2 {r : Int} (h : 128 ≤ r) (h2 : r < 2048) : encL r = [192 + r / 64, 128 + r % 64] := by unfold encL; rw [if_neg (by omega), if_pos h2]
theorem enc3 {r : Int} (h : 2048 ≤ r) (h2 : r < 65536) : encL r = [224 + r / 4096, 128 + r / 64 % 64, 128 + r % 64] := by unfold encL; rw [if_neg (by omega), if_neg (by omega), if_pos h2]
theorem enc4 {r : Int} (h : 65536 ≤ r) : encL r = [240 + r / 262144, 128 + r / 4096 % 64, 128 + r / 64 % 64, 128 + r % 64] := by unfold encL; rw [if_neg (by omega), if_neg (by omega), if_neg (by omega)]

theorem two_yes {s : ByteArray} {p : Nat} (h1 : 192 ≤ byteAt s p) (h2 : byteAt s p < 224) (hs : p + 2 ≤ s.size) (he : encL (mix s p (byteAt s p % 32) 1) = [byteAt s p, byteAt s (p + 1)]) : charAt s p = 2 := by
  have hl := leadW2 ⟨h1, h2⟩
  have hb := byteAt_range s (p + 1)
  have hm : mix s p (byteAt s p % 32) 1 = byteAt s p % 32 * 64 + byteAt s (p + 1) % 64 := rfl
  rw [hm] at he
  have hr : 128 ≤ byteAt s p % 32 * 64 + byteAt s (p + 1) % 64 := by
    rcases Int.lt_or_le (byteAt s p % 32 * 64 + byteAt s (p + 1) % 64) 128 with h | h
    · rw [enc1 h] at he; simp at he
    · exact h
  rw [enc2 hr (by omega)] at he
  simp only [List.cons.injEq, and_true] at he
  have hc : conts s p (byteAt s p - 192) 1 = some (64 * (byteAt s p - 192) + byteAt s (p + 1) - 128) := conts_yes (k := 0) rfl (by show 128 ≤ byteAt s (p + 1); omega) (by show byteAt s (p + 1) < 192; omega)
  rw [charAt_Wof hl (by omega) hs hc, if_neg (by rw [outside_no (by omega) (by omega) (by omega)]; simp)]
theorem two_no {s : ByteArray} {p : Nat} (h1 : 192 ≤ byteAt s p) (h2 : byteAt s p < 224) (hs : p + 2 ≤ s.size) (he : encL (mix s p (byteAt s p % 32) 1) ≠ [byteAt s p, byteAt s (p + 1)]) : charAt s p = 0 := by
  have hl := leadW2 ⟨h1, h2⟩
  have hb := byteAt_range s (p + 1)
  have hm : mix s p (byteAt s p % 32) 1 = byteAt s p % 32 * 64 + byteAt s (p + 1) % 64 := rfl
  rw [hm] at he
  by_cases hc : 128 ≤ byteAt s (p + 1) ∧ byteAt s (p + 1) < 192
  · have hcs : conts s p (byteAt s p - 192) 1 = some (64 * (byteAt s p - 192) + byteAt s (p + 1) - 128) := conts_yes (k := 0) rfl hc.1 hc.2
    rw [charAt_Wof hl (by omega) hs hcs, if_pos]
    refine outside_yes (.inl ?_)
    rcases Int.lt_or_le (byteAt s p % 32 * 64 + byteAt s (p + 1) % 64) 128 with h | h
    · omega
    · exfalso
      apply he
      rw [enc2 h (by omega)]
      simp only [List.cons.injEq, and_true]
      omega
  · exact charAt_Wcont (k := 1) hl (by omega) (by omega) (conts_no (k := 0) rfl (by show byteAt s (p + 1) < 128 ∨ 192 ≤ byteAt s (p + 1); omega))
theorem three_mix {s : ByteArray} {p : Nat} : mix s p (byteAt s p % 16) 2 = (byteAt s p % 16 * 64 + byteAt s (p + 1) % 64) * 64 + byteAt s (p + 2) % 64 := rfl
theorem three_yes {s : ByteArray} {p : Nat} (h1 : 224 ≤ byteAt s p) (h2 : byteAt s p < 240) (hs : p + 3 ≤ s.size) (hr : isChar (mix s p (byteAt s p % 16) 2)) (he : encL (mix s p (byteAt s p % 16) 2) = [byteAt s p, byteAt s (p + 1), byteAt s (p + 2)]) : charAt s p = 3 := by
  have hl := leadW3 ⟨h1, h2⟩
  have hb := byteAt_range s (p + 1)
  have hb2 := byteAt_range s (p + 2)
  rw [three_mix] at he hr
  obtain ⟨hr1, hr2, hr3⟩ := hr
  generalize hR : (byteAt s p % 16 * 64 + byteAt s (p + 1) % 64) * 64 + byteAt s (p + 2) % 64 = R at *
  have hlo : 2048 ≤ R := by
    rcases Int.lt_or_le R 2048 with h | h
    · rcases Int.lt_or_le R 128 with g | g
      · rw [enc1 g] at he; simp at he
      · rw [enc2 g h] at he; simp at he
    · exact h
  rw [enc3 hlo (by omega)] at he
  simp only [List.cons.injEq, and_true] at he
  have hc1 : conts s p (byteAt s p - 224) 1 = some (64 * (byteAt s p - 224) + byteAt s (p + 1) - 128) := conts_yes (k := 0) rfl (by show 128 ≤ byteAt s (p + 1); omega) (by show byteAt s (p + 1) < 192; omega)
  have hc : conts s p (byteAt s p - 224) 2 = some (64 * (64 * (byteAt s p - 224) + byteAt s (p + 1) - 128) + byteAt s (p + 2) - 128) := conts_yes (k := 1) hc1 (by show 128 ≤ byteAt s (p + 2); omega) (by show byteAt s (p + 2) < 192; omega)
  rw [charAt_Wof hl (by omega) hs hc, if_neg (by rw [outside_no (by omega) (by omega) (by omega)]; simp)]
theorem three_no {s : ByteArray} {p : Nat} (h1 : 224 ≤ byteAt s p) (h2 : byteAt s p < 240) (hs : p + 3 ≤ s.size) (he : ¬ (isChar (mix s p (byteAt s p % 16) 2) ∧ encL (mix s p (byteAt s p % 16) 2) = [byteAt s p, byteAt s (p + 1), byteAt s (p + 2)])) : charAt s p = 0 := by
  have hl := leadW3 ⟨h1, h2⟩
  have hb := byteAt_range s (p + 1)
  have hb2 := byteAt_range s (p + 2)
  rw [three_mix] at he
  by_cases hc : 128 ≤ byteAt s (p + 1) ∧ byteAt s (p + 1) < 192
  · have hc1 : conts s p (byteAt s p - 224) 1 = some (64 * (byteAt s p - 224) + byteAt s (p + 1) - 128) := conts_yes (k := 0) rfl hc.1 hc.2
    by_cases hd : 128 ≤ byteAt s (p + 2) ∧ byteAt s (p + 2) < 192
    · have hcs : conts s p (byteAt s p - 224) 2 = some (64 * (64 * (byteAt s p - 224) + byteAt s (p + 1) - 128) + byteAt s (p + 2) - 128) := conts_yes (k := 1) hc1 hd.1 hd.2
      rw [charAt_Wof hl (by omega) hs hcs, if_pos]
      apply outside_yes
      generalize hR : (byteAt s p % 16 * 64 + byteAt s (p + 1) % 64) * 64 + byteAt s (p + 2) % 64 = R at *
      have hRR : 64 * (64 * (byteAt s p - 224) + byteAt s (p + 1) - 128) + byteAt s (p + 2) - 128 = R := by omega
      rw [hRR]
      rcases Int.lt_or_le R 2048 with h | h
      · exact .inl h
      · rcases Int.lt_or_le 1114111 R with g | g
        · exact .inr (.inl g)
        · refine .inr (.inr ?_)
          rcases Int.lt_or_le R 55296 with k | k
          · exfalso
            refine he ⟨⟨by omega, by omega, .inl k⟩, ?_⟩
            rw [enc3 h (by omega)]
            simp only [List.cons.injEq, and_true]
            omega
          · rcases Int.lt_or_le 57343 R with m | m
            · exfalso
              refine he ⟨⟨by omega, by omega, .inr m⟩, ?_⟩
              rw [enc3 h (by omega)]
              simp only [List.cons.injEq, and_true]
              omega
            · exact ⟨k, by omega⟩
    · exact charAt_Wcont (k := 2) hl (by omega) (by omega) (conts_no (k := 1) hc1 (by show byteAt s (p + 2) < 128 ∨ 192 ≤ byteAt s (p + 2); omega))
  · exact charAt_Wcont (k := 1) hl (by omega) (by omega) (conts_no (k := 0) rfl (by show byteAt s (p + 1) < 128 ∨ 192 ≤ byteAt s (p + 1); omega))
theorem four_mix {s : ByteArray} {p : Nat} : mix s p (byteAt s p % 8) 3 = ((byteAt s p % 8 * 64 + byteAt s (p + 1) % 64) * 64 + byteAt s (p + 2) % 64) * 64 + byteAt s (p + 3) % 64 := rfl
theorem four_yes {s : ByteArray} {p : Nat} (h1 : 240 ≤ byteAt s p) (hs : p + 4 ≤ s.size) (hr : isChar (mix s p (byteAt s p % 8) 3)) (he : encL (mix s p (byteAt s p % 8) 3) = [byteAt s p, byteAt s (p + 1), byteAt s (p + 2), byteAt s (p + 3)]) : charAt s p = 4 := by
  have hb0 := byteAt_range s p
  have hb := byteAt_range s (p + 1)
  have hb2 := byteAt_range s (p + 2)
  have hb3 := byteAt_range s (p + 3)
  rw [four_mix] at he hr
  obtain ⟨hr1, hr2, hr3⟩ := hr
  generalize hR : ((byteAt s p % 8 * 64 + byteAt s (p + 1) % 64) * 64 + byteAt s (p + 2) % 64) * 64 + byteAt s (p + 3) % 64 = R at *
  have hlo : 65536 ≤ R := by
    rcases Int.lt_or_le R 65536 with h | h
    · rcases Int.lt_or_le R 2048 with k | k
      · rcases Int.lt_or_le R 128 with g | g
        · rw [enc1 g] at he; simp at he
        · rw [enc2 g k] at he; simp at he
      · rw [enc3 k h] at he; simp at he
    · exact h
  rw [enc4 hlo] at he
  simp only [List.cons.injEq, and_true] at he
  have h2 : byteAt s p < 248 := by omega
  have hl := leadW4 ⟨h1, h2⟩
  have hc1 : conts s p (byteAt s p - 240) 1 = some (64 * (byteAt s p - 240) + byteAt s (p + 1) - 128) := conts_yes (k := 0) rfl (by show 128 ≤ byteAt s (p + 1); omega) (by show byteAt s (p + 1) < 192; omega)
  have hc2 : conts s p (byteAt s p - 240) 2 = some (64 * (64 * (byteAt s p - 240) + byteAt s (p + 1) - 128) + byteAt s (p + 2) - 128) := conts_yes (k := 1) hc1 (by show 128 ≤ byteAt s (p + 2); omega) (by show byteAt s (p + 2) < 192; omega)
  have hc : conts s p (byteAt s p - 240) 3 = some (64 * (64 * (64 * (byteAt s p - 240) + byteAt s (p + 1) - 128) + byteAt s (p + 2) - 128) + byteAt s (p + 3) - 128) := conts_yes (k := 2) hc2 (by show 128 ≤ byteAt s (p + 3); omega) (by show byteAt s (p + 3) < 192; omega)
  rw [charAt_Wof hl (by omega) hs hc, if_neg (by rw [outside_no (by omega) (by omega) (by omega)]; simp)]
theorem four_no {s : ByteArray} {p : Nat} (h1 : 240 ≤ byteAt s p) (hs : p + 4 ≤ s.size) (he : ¬ (isChar (mix s p (byteAt s p % 8) 3) ∧ encL (mix s p (byteAt s p % 8) 3) = [byteAt s p, byteAt s (p + 1), byteAt s (p + 2), byteAt s (p + 3)])) : charAt s p = 0 := by
  have hb0 := byteAt_range s p
  have hb := byteAt_range s (p + 1)
  have hb2 := byteAt_range s (p + 2)
  have hb3 := byteAt_range s (p + 3)
  by_cases h2 : 248 ≤ byteAt s p
  · exact charAt_W0 (.inr h2)
  have hl := leadW4 ⟨h1, by omega⟩
  rw [four_mix] at he
  by_cases hc : 128 ≤ byteAt s (p + 1) ∧ byteAt s (p + 1) < 192
  · have hc1 : conts s p (byteAt s p - 240) 1 = some (64 * (byteAt s p - 240) + byteAt s (p + 1) - 128) := conts_yes (k := 0) rfl hc.1 hc.2
    by_cases hd : 128 ≤ byteAt s (p + 2) ∧ byteAt s (p + 2) < 192
    · have hc2 : conts s p (byteAt s p - 240) 2 = some (64 * (64 * (byteAt s p - 240) + byteAt s (p + 1) - 128) + byteAt s (p + 2) - 128) := conts_yes (k := 1) hc1 hd.1 hd.2
      by_cases hf : 128 ≤ byteAt s (p + 3) ∧ byteAt s (p + 3) < 192
      · have hcs : conts s p (byteAt s p - 240) 3 = some (64 * (64 * (64 * (byteAt s p - 240) + byteAt s (p + 1) - 128) + byteAt s (p + 2) - 128) + byteAt s (p + 3) - 128) := conts_yes (k := 2) hc2 hf.1 hf.2
        rw [charAt_Wof hl (by omega) hs hcs, if_pos]
        apply outside_yes
        generalize hR : ((byteAt s p % 8 * 64 + byteAt s (p + 1) % 64) * 64 + byteAt s (p + 2) % 64) * 64 + byteAt s (p + 3) % 64 = R at *
        have hRR : 64 * (64 * (64 * (byteAt s p - 240) + byteAt s (p + 1) - 128) + byteAt s (p + 2) - 128) + byteAt s (p + 3) - 128 = R := by omega
        rw [hRR]
        rcases Int.lt_or_le R 65536 with h | h
        · exact .inl h
        · rcases Int.lt_or_le 1114111 R with g | g
          · exact .inr (.inl g)
          · exfalso
            refine he ⟨⟨by omega, by omega, .inr (by omega)⟩, ?_⟩
            rw [enc4 h]
            simp only [List.cons.injEq, and_true]
            omega
      · exact charAt_Wcont (k := 3) hl (by omega) (by omega) (conts_no (k := 2) hc2 (by show byteAt s (p + 3) < 128 ∨ 192 ≤ byteAt s (p + 3); omega))
    · exact charAt_Wcont (k := 2) hl (by omega) (by omega) (conts_no (k := 1) hc1 (by show byteAt s (p + 2) < 128 ∨ 192 ≤ byteAt s (p + 2); omega))
  · exact charAt_Wcont (k := 1) hl (by omega) (by omega) (conts_no (k := 0) rfl (by show byteAt s (p + 1) < 128 ∨ 192 ≤ byteAt s (p + 1); omega))
theorem one_char {s : ByteArray} {p : Nat} (h : byteAt s p < 128) (hp : p < s.size) : charAt s p = 1 := by
  have hb := byteAt_range s p
  rw [charAt_Wof (leadW1 h) (by omega) (by omega) (show conts s p (byteAt s p) (1 - 1) = some (byteAt s p) from rfl), if_neg (by rw [outside_no (by omega) (by omega) (by omega)]; simp)]

theorem charAt_le {s : ByteArray} {p : Nat} (h : charAt s p ≠ 0) : p + charAt s p ≤ s.size := by
  unfold charAt at h ⊢
  split at h
  · exact absurd rfl h
  · rename_i hn
    rw [if_neg hn]
    split at h
    · exact absurd rfl h
    · split at h
      · exact absurd rfl h
      · rename_i ho
        simp only [if_neg ho]
        omega
/-! ### Strings as numbers -/
def ints (l : List UInt8) : List Int := l.map fun c => (c.toNat : Int)
theorem ints_inj {a b : List UInt8} (h : ints a = ints b) : a = b := by
  unfold ints at h
  exact (List.map_inj_right (fun x y e => UInt8.toNat_inj.1 (Int.ofNat_inj.1 e))).1 h
theorem ints_nums {l : List Int} (h : ∀ x ∈ l, 0 ≤ x ∧ x ≤ 255) : ints (strOfNums l).data.toList = l := by
  unfold ints strOfNums
  simp only [List.map_map]
  conv => rhs; rw [← List.map_id l]
  refine List.map_congr_left fun x hx => ?_
  have := h x hx
  simp
  omega
theorem ints_extract {s : ByteArray} {p n : Nat} (h : p + n ≤ s.size) : ints (s.extract p (p + n)).data.toList = (List.range n).map fun j => byteAt s (p + j) := by
  unfold ints
  have hl : (s.extract p (p + n)).data.toList = (s.data.toList.drop p).take n := by
    rw [ByteArray.data_extract, Array.toList_extract]
    simp [List.extract_eq_take_drop]
  rw [hl]
  apply List.ext_getElem?
  intro j
  rw [List.getElem?_map, List.getElem?_map, List.getElem?_take]
  have hs : s.data.toList.length = s.size := by simp
  by_cases hj : j < n
  · rw [if_pos hj, List.getElem?_drop, List.getElem?_range hj]
    have : p + j < s.data.toList.length := by omega
    rw [List.getElem?_eq_getElem this]
    simp only [Option.map_some]
    congr 1
    unfold byteAt
    rw [List.getElem?_eq_getElem this]
    rfl
  · rw [if_neg hj, List.getElem?_eq_none (by simpa using hj)]
    rfl
theorem encL_bytes {r : Int} (h0 : 0 ≤ r) (h1 : r ≤ 2097151) : ∀ x ∈ encL r, 0 ≤ x ∧ x ≤ 255 := by
  intro x hx
  unfold encL at hx
  split at hx
  · simp at hx; omega
  · split at hx
    · simp at hx; omega
    · split at hx
      · simp at hx; omega
      · simp at hx; omega
/-- The encoding of a number is a part of a string just where its bytes are those of the part. -/
theorem enc_eq {s : ByteArray} {p n : Nat} {r : Int} (h0 : 0 ≤ r) (h1 : r ≤ 2097151) (h : p + n ≤ s.size) : (strOfNums (encL r)).toList = (s.extract p (p + n)).toList ↔ encL r = (List.range n).map fun j => byteAt s (p + j) := by
  rw [ByteArray.toList_eq, ByteArray.toList_eq]
  constructor
  · intro e
    rw [← ints_extract h, ← e, ints_nums (encL_bytes h0 h1)]
  · intro e
    apply ints_inj
    rw [ints_extract h, ints_nums (encL_bytes h0 h1), e]
end Go.Proofs.YtfegnmbdgdjkgaaGreatDoor
