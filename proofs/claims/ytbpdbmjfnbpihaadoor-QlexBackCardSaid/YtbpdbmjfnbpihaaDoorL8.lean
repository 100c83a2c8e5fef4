/- A valid character is read by Go's decoder with its own width; the program's bad finds nothing in a valid string. -/
import Derived.Test.YtbpdbmjfnbpihaaDoorBad35
import Derived.Test.YtbpdbmjfnbpihaaDoorL5
import Derived.Lib.DecodeN
import Derived.Lib.RuneCountTail
import Derived.Test.YtbpdbmjfnbpihaaDoorShelf
namespace Go.Proofs.YtbpdbmjfnbpihaaDoor
open Go.RowKit

theorem get_byteAt {s : ByteArray} {i : Nat} (h : i < s.size) : ((s.get! i).toNat : Int) = byteAt s i := by
  rw [← byteAt_eq s i h]
  have : s.get! i = s[i] := by
    show s.data[i]! = s.data[i]
    exact getElem!_pos s.data i h
  rw [this]
theorem conts_s {s : ByteArray} {p k : Nat} {c d : Int} (h : conts s p c (k + 1) = some d) : ∃ e, conts s p c k = some e ∧ 128 ≤ byteAt s (p + (k + 1)) ∧ byteAt s (p + (k + 1)) < 192 ∧ d = 64 * e + byteAt s (p + (k + 1)) - 128 := by
  rw [conts] at h
  split at h
  · cases h
  · rename_i e he
    split at h
    · injection h with h; exact ⟨e, he, by omega, by omega, by omega⟩
    · cases h
theorem conts_1 {s : ByteArray} {p : Nat} {c d : Int} (h : conts s p c 1 = some d) : 128 ≤ byteAt s (p + 1) ∧ byteAt s (p + 1) < 192 ∧ d = 64 * c + byteAt s (p + 1) - 128 := by
  obtain ⟨e, he, h1, h2, h3⟩ := conts_s (k := 0) h
  injection he with he
  subst he
  exact ⟨h1, h2, h3⟩
theorem charAt_pos {s : ByteArray} {p : Nat} (h : charAt s p ≠ 0) : ∃ n least c0 c, lead (byteAt s p) = (n, least, c0) ∧ charAt s p = n ∧ n ≠ 0 ∧ p + n ≤ s.size ∧ conts s p c0 (n - 1) = some c ∧ outside least c = false := by
  rcases hl : lead (byteAt s p) with ⟨n, least, c0⟩
  by_cases g : n = 0 ∨ s.size < p + n
  · exact absurd (by unfold charAt; rw [hl, if_pos g]) h
  · cases hc : conts s p c0 (n - 1) with
    | none => exact absurd (by unfold charAt; rw [hl]; simp only; rw [if_neg g, hc]) h
    | some c =>
      have he := charAt_of hl (by omega) (by omega) hc
      cases ho : outside least c with
      | true => exact absurd (by rw [he, ho]; rfl) h
      | false => exact ⟨n, least, c0, c, rfl, by rw [he, ho]; simp, by omega, by omega, hc, ho⟩
theorem dN1 (n b0 b1 b2 b3 : Nat) (h : b0 < 128) : Lib.decodeN n b0 b1 b2 b3 = (b0, 1) := by unfold Lib.decodeN; rw [if_pos h]
theorem dN2 (n b0 b1 b2 b3 : Nat) (h : 194 ≤ b0 ∧ b0 < 224) (h1 : 128 ≤ b1 ∧ b1 < 192) (hn : 2 ≤ n) : (Lib.decodeN n b0 b1 b2 b3).2 = 2 := by
  unfold Lib.decodeN; rw [if_neg (by omega), if_pos (by omega), if_pos (by omega)]
theorem dN3 (n b0 b1 b2 b3 : Nat) (h : 224 ≤ b0 ∧ b0 < 240) (h1 : 128 ≤ b1 ∧ b1 < 192) (h2 : 128 ≤ b2 ∧ b2 < 192) (hn : 3 ≤ n)
    (hv : 2048 ≤ 4096 * (b0 - 224) + 64 * (b1 - 128) + (b2 - 128) ∧ (4096 * (b0 - 224) + 64 * (b1 - 128) + (b2 - 128) < 55296 ∨ 57344 ≤ 4096 * (b0 - 224) + 64 * (b1 - 128) + (b2 - 128))) : (Lib.decodeN n b0 b1 b2 b3).2 = 3 := by
  unfold Lib.decodeN; rw [if_neg (by omega), if_neg (by omega), if_pos (by omega), if_pos (by omega)]
theorem dN4 (n b0 b1 b2 b3 : Nat) (h : 240 ≤ b0 ∧ b0 < 245) (h1 : 128 ≤ b1 ∧ b1 < 192) (h2 : 128 ≤ b2 ∧ b2 < 192) (h3 : 128 ≤ b3 ∧ b3 < 192) (hn : 4 ≤ n)
    (hv : 65536 ≤ 262144 * (b0 - 240) + 4096 * (b1 - 128) + 64 * (b2 - 128) + (b3 - 128) ∧ 262144 * (b0 - 240) + 4096 * (b1 - 128) + 64 * (b2 - 128) + (b3 - 128) ≤ 1114111) : (Lib.decodeN n b0 b1 b2 b3).2 = 4 := by
  unfold Lib.decodeN; rw [if_neg (by omega), if_neg (by omega), if_neg (by omega), if_pos (by omega), if_pos (by omega)]
theorem decode_char {s : ByteArray} {p : Nat} (hp : p < s.size) (h : charAt s p ≠ 0) : (Utf8.decode s p).2 = charAt s p ∧ ((Utf8.decode s p).2 = 1 → (Utf8.decode s p).1 ≠ 65533) ∧ p + charAt s p ≤ s.size := by
  obtain ⟨n, least, c0, c, hl, hc, hn, hs, hk, ho⟩ := charAt_pos h
  have e0 := get_byteAt hp
  have hcls : byteAt s p < 128 ∨ (194 ≤ byteAt s p ∧ byteAt s p < 224) ∨ (224 ≤ byteAt s p ∧ byteAt s p < 240) ∨ (240 ≤ byteAt s p ∧ byteAt s p < 245) ∨ (128 ≤ byteAt s p ∧ byteAt s p < 194) ∨ 245 ≤ byteAt s p := by omega
  simp only [outside, Bool.or_eq_false_iff, Bool.and_eq_false_iff, decide_eq_false_iff_not] at ho
  rw [hc, Lib.decode_at]
  rcases hcls with g | g | g | g | g | g
  · rw [lead1 g] at hl
    injection hl with h1 h2; subst h1
    rw [dN1 _ _ _ _ _ (by omega)]
    exact ⟨rfl, fun _ => by show (s.get! p).toNat ≠ 65533; omega, hs⟩
  · rw [lead2 g] at hl
    injection hl with h1 h2; injection h2 with h2 h3; subst h1 h2 h3
    have k1 := conts_1 hk
    have e1 := get_byteAt (s := s) (i := p + 1) (by omega)
    have hd := dN2 (s.size - p) (s.get! p).toNat (s.get! (p + 1)).toNat (s.get! (p + 2)).toNat (s.get! (p + 3)).toNat (by omega) (by omega) (by omega)
    exact ⟨hd, fun h => (by rw [hd] at h; cases h), hs⟩
  · rw [lead3 g] at hl
    injection hl with h1 h2; injection h2 with h2 h3; subst h1 h2 h3
    obtain ⟨e, hk1, k2, k3, k4⟩ := conts_s (k := 1) hk
    have k1 := conts_1 hk1
    have e1 := get_byteAt (s := s) (i := p + 1) (by omega)
    have e2 := get_byteAt (s := s) (i := p + 2) (by omega)
    simp only [Nat.reduceAdd] at k2 k3 k4
    have hd := dN3 (s.size - p) (s.get! p).toNat (s.get! (p + 1)).toNat (s.get! (p + 2)).toNat (s.get! (p + 3)).toNat (by omega) (by omega) (by omega) (by omega) (by omega)
    exact ⟨hd, fun h => (by rw [hd] at h; cases h), hs⟩
  · rw [lead4 g] at hl
    injection hl with h1 h2; injection h2 with h2 h3; subst h1 h2 h3
    obtain ⟨e, hk1, k2, k3, k4⟩ := conts_s (k := 2) hk
    obtain ⟨e', hk1', k2', k3', k4'⟩ := conts_s (k := 1) hk1
    have k1 := conts_1 hk1'
    have e1 := get_byteAt (s := s) (i := p + 1) (by omega)
    have e2 := get_byteAt (s := s) (i := p + 2) (by omega)
    have e3 := get_byteAt (s := s) (i := p + 3) (by omega)
    simp only [Nat.reduceAdd] at k2 k3 k4 k2' k3' k4'
    have hd := dN4 (s.size - p) (s.get! p).toNat (s.get! (p + 1)).toNat (s.get! (p + 2)).toNat (s.get! (p + 3)).toNat (by omega) (by omega) (by omega) (by omega) (by omega) (by omega)
    exact ⟨hd, fun h => (by rw [hd] at h; cases h), hs⟩
  · rw [lead0 (.inl g)] at hl
    injection hl with h1 h2
    omega
  · rw [lead0 (.inr g)] at hl
    injection hl with h1 h2
    omega

theorem okFrom_true {s : ByteArray} {p : Nat} (hp : p < s.size) (h : okFrom s (s.size - p) p = true) : charAt s p ≠ 0 ∧ okFrom s (s.size - (p + charAt s p)) (p + charAt s p) = true := by
  by_cases hc : charAt s p = 0
  · rw [okFrom_bad s p hp hc] at h; cases h
  · exact ⟨hc, by rw [← okFrom_step s p _ hp rfl hc]; exact h⟩
theorem decodeGo_char {s : ByteArray} {p : Nat} (hp : p < s.size) (h : charAt s p ≠ 0) : (Lib.decodeGo (s.extract p s.size)).2 = charAt s p ∧ ((Lib.decodeGo (s.extract p s.size)).2 = 1 → (Lib.decodeGo (s.extract p s.size)).1 ≠ 65533) ∧ p + charAt s p ≤ s.size := by
  have e : Lib.decodeGo (s.extract p s.size) = Utf8.decode s p := by
    unfold Lib.decodeGo
    rw [if_neg (by rw [ByteArray.size_extract]; omega), Lib.tail_decode]
    rfl
  rw [e]
  exact decode_char hp h
theorem tabs_below {w w' : World} (h : Lib.Utf8Tabs 3 4 w) (hb : Below w.heap.size w w') : Lib.Utf8Tabs 3 4 w' := by
  refine ⟨fun c hc => ?_, fun i hi => ?_⟩
  · have h1 := h.1 c hc
    rw [hb.cell (World.block_lt_of_cell? w _ h1)]; exact h1
  · have h1 := h.2 i hi
    exact ⟨by rw [hb.cell (World.block_lt_of_cell? w _ h1.1)]; exact h1.1, by rw [hb.cell (World.block_lt_of_cell? w _ h1.2)]; exact h1.2⟩

set_option maxRecDepth 100000 in
set_option maxHeartbeats 800000 in
theorem bad24 (s : ByteArray) (w : World) (hs : s.size ≤ 1099511627776) (hT : Lib.Utf8Tabs 3 4 w) (hv : validS s = true) :
    Calls Tryd.prog 24 #[.string s] w fun e w' => e = .returned (.int .i64 (-1)) ∧ Below w.heap.size w w' := by
  have HT := Lib.hid hT
  have HV := Lib.hid (show okFrom s (s.size - 0) 0 = true from hv)
  clear hT hv
  go_enter Tryd.func24, Tryd.ntmps24
  go_wp2_with fail
  go_simp
  go_loopw [3] (fun t wr => ∃ p : Nat, t = .int .i64 p ∧ p ≤ s.size ∧ Hid (okFrom s (s.size - p) p = true) ∧ Below w.heap.size w wr) (fun t _ => s.size - (intOf t).toNat)
  case atStart => exact ⟨0, rfl, by omega, HV, Below.refl _ _⟩
  case round =>
    obtain ⟨w1, rfl⟩ : ∃ w1, w1 = wr := ⟨wr, rfl⟩
    obtain ⟨p, rfl, hp, hk, hbel⟩ := hrel
    have HB := Lib.hid hbel
    clear hbel
    by_cases hlt : p < s.size
    · obtain ⟨hc, hk2⟩ := okFrom_true hlt hk.out
      obtain ⟨hw1, hw2, hw3⟩ := decodeGo_char hlt hc
      have HK2 := Lib.hid hk2
      have HW2 := Lib.hid hw2
      have HW1 := Lib.hid hw1
      clear hk2 hk hw2 hw1
      go_wp2_with fail
      refine (Tryd.utf8_DecodeRuneInString _ w1 (tabs_below HT.out HB.out)).mono ?_
      rintro e w2 ⟨rfl, hb2⟩
      have HB2 := Lib.hid (belowThen HB.out hb2)
      clear hb2
      generalize hd1 : (Lib.decodeGo (s.extract p s.size)).1 = r at *
      generalize hd2 : (Lib.decodeGo (s.extract p s.size)).2 = k at *
      clear hd1 hd2
      obtain rfl : k = charAt s p := HW1.out
      by_cases hr : r = 65533
      · have hk1 : ¬ charAt s p = 1 := fun h => HW2.out h hr
        subst hr
        have q1 : ((charAt s p : Int) == 1) = false := by simp; omega
        go_wp2_with fail
        go_roundw
        case rel => exact ⟨p + charAt s p, by go_num, hw3, HK2, HB2.out⟩
        case measure => simp [intOf]; omega
      · have q1 : ((r : Int) == 65533) = false := by simp; omega
        go_wp2_with fail
        go_roundw
        case rel => exact ⟨p + charAt s p, by go_num, hw3, HK2, HB2.out⟩
        case measure => simp [intOf]; omega
    · go_wp2_with fail
      go_ret
      exact ⟨rfl, HB.out⟩
end Go.Proofs.YtbpdbmjfnbpihaaDoor
