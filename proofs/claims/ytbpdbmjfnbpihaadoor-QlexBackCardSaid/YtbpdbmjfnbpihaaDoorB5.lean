/- The token at the beginning of a string in quotation marks is the whole of it. -/
import Derived.Test.YtbpdbmjfnbpihaaDoorB4
namespace Go.Proofs.YtbpdbmjfnbpihaaDoor
open Go.RowKit

theorem preAt_no {s : ByteArray} {n : Nat} {b : UInt8} {r : List UInt8} (hn : n < s.size) (h : byteI s n ≠ b.toNat) : preAt s n (b :: r) = false := by
  cases hp : preAt s n (b :: r) with
  | false => rfl
  | true =>
    exfalso
    unfold preAt Lib.hasPrefix at hp
    have h1 := List.isPrefixOf_iff_prefix.1 hp
    have hz : 0 < (s.extract n s.size).size := by rw [ByteArray.size_extract]; omega
    have h2 : (s.extract n s.size).data.toList[0]? = some b := by
      obtain ⟨t, ht⟩ := h1
      rw [← ht]; rfl
    have h3 : (s.extract n s.size)[0] = s[n] := by
      simp [ByteArray.getElem_extract]
    have h4 : (s.extract n s.size).data.toList[0]? = some (s.extract n s.size)[0] := by
      rw [List.getElem?_eq_getElem (by rw [Array.length_toList]; exact hz)]
      rfl
    rw [h4, h3] at h2
    injection h2 with h2
    rw [← byteI_eq hn, h2] at h
    exact h rfl
theorem quoteS_next {s : ByteArray} (hs : s.size ≤ 5000) : NextIs (quoteS s) 0 5 (quoteS s).size := by
  have h34 := quoteS_first s
  have hz := quoteS_size s
  have hi : 0 < (quoteS s).size := by omega
  have hq := quoteS_read s
  exact next_text_o (quoteS s) 0 (quoteS s).size (by have := quoteS_le hs; omega) hi (by rw [h34]; rfl) (by rw [h34]; rfl) (by rw [h34]; rfl)
    (preAt_no hi (by rw [h34]; decide)) (by rw [h34]; rfl) h34 (by rw [show (0 + 1 : Nat) = 1 from rfl, hq]) (by rw [show (0 + 1 : Nat) = 1 from rfl, hq])
end Go.Proofs.YtbpdbmjfnbpihaaDoor
