/- A quoted string, byte by byte; quoted reads it back. -/
import Derived.Test.YtbpdbmjfnbpihaaDoorL7
import Derived.Test.YtbpdbmjfnbpihaaDoorL8
namespace Go.Proofs.YtbpdbmjfnbpihaaDoor
open Go.RowKit

def hexC (d : Int) : Int := if d < 10 then 48 + d else 87 + d
/-- What a byte is written as inside quotation marks. -/
def escB (c : Int) : List Int :=
  if c = 34 then [92, 34] else if c = 92 then [92, 92] else if c = 8 then [92, 98] else if c = 12 then [92, 102] else if c = 10 then [92, 110] else if c = 13 then [92, 114] else if c = 9 then [92, 116]
  else if c < 32 then [92, 117, 48, 48, hexC (c / 16), hexC (c % 16)] else [c]
def escL : List Int → List Int
  | [] => []
  | c :: r => escB c ++ escL r
theorem escL_append : ∀ (a b : List Int), escL (a ++ b) = escL a ++ escL b
  | [], b => rfl
  | c :: r, b => by simp [escL, escL_append r b]
def nums (s : ByteArray) : List Int := s.data.toList.map fun b => (b.toNat : Int)
theorem nums_length (s : ByteArray) : (nums s).length = s.size := by simp [nums]
theorem nums_get (s : ByteArray) (i : Nat) (h : i < s.size) : (nums s)[i]'(by rw [nums_length]; exact h) = byteI s i := by
  rw [← byteI_eq h]
  simp [nums]
  rfl
theorem nums_range (s : ByteArray) : ∀ c ∈ nums s, 0 ≤ c ∧ c ≤ 255 := by
  intro c hc
  obtain ⟨b, _, rfl⟩ := List.mem_map.1 hc
  have := UInt8.toNat_lt b
  omega
theorem strOfNums_nums (s : ByteArray) : strOfNums (nums s) = s := by
  have h : (strOfNums (nums s)).data.toList = s.data.toList := by
    rw [strOfNums_data]
    unfold nums
    rw [List.map_map]
    have : ((fun n : Int => UInt8.ofNat n.toNat) ∘ fun b : UInt8 => (b.toNat : Int)) = id := by
      funext b
      simp
    rw [this, List.map_id]
  cases s with
  | mk d =>
    have h2 : (strOfNums (nums ⟨d⟩)).data = d := Array.toList_inj.1 h
    cases hh : strOfNums (nums ⟨d⟩) with
    | mk d2 => rw [hh] at h2; simp at h2; rw [h2]
theorem byteI_str (xs : List Int) (n : Nat) (h : n < xs.length) (hr : 0 ≤ xs[n] ∧ xs[n] ≤ 255) : byteI (strOfNums xs) n = xs[n] := by
  have h1 : n < (strOfNums xs).size := by rw [strOfNums_size]; exact h
  rw [← byteI_eq h1]
  have h2 : (strOfNums xs)[n] = UInt8.ofNat xs[n].toNat := by
    show (strOfNums xs).data[n] = _
    simp [strOfNums]
  rw [h2]
  have h3 : (UInt8.ofNat xs[n].toNat).toNat = xs[n].toNat := by
    simp
    omega
  rw [h3]
  omega
theorem escB_range {c : Int} (h0 : 0 ≤ c) (h1 : c ≤ 255) : ∀ d ∈ escB c, 0 ≤ d ∧ d ≤ 255 := by
  intro d hd
  unfold escB hexC at hd
  repeat' split at hd
  all_goals
    simp only [List.mem_cons, List.mem_nil_iff, or_false] at hd
    omega
theorem escL_range : ∀ (l : List Int), (∀ c ∈ l, 0 ≤ c ∧ c ≤ 255) → ∀ d ∈ escL l, 0 ≤ d ∧ d ≤ 255
  | [], _, d, hd => by cases hd
  | c :: r, h, d, hd => by
    rcases List.mem_append.1 hd with hd | hd
    · exact escB_range (h c (by simp)).1 (h c (by simp)).2 d hd
    · exact escL_range r (fun x hx => h x (by simp [hx])) d hd
/-- The list L stands in a from n on. -/
def StandsAt (a : ByteArray) (n : Nat) (L : List Int) : Prop := n + L.length ≤ a.size ∧ ∀ j (h : j < L.length), byteI a (n + j) = L[j]
theorem StandsAt.skip {a : ByteArray} {n : Nat} {L M : List Int} (h : StandsAt a n (L ++ M)) : StandsAt a (n + L.length) M := by
  refine ⟨by have := h.1; rw [List.length_append] at this; omega, fun j hj => ?_⟩
  have := h.2 (L.length + j) (by rw [List.length_append]; omega)
  rw [Nat.add_assoc, this, List.getElem_append_right (by omega)]
  simp
theorem StandsAt.get {a : ByteArray} {n : Nat} {L : List Int} (h : StandsAt a n L) {j : Nat} {c : Int} (hc : L[j]? = some c) : byteI a (n + j) = c ∧ n + j < a.size := by
  obtain ⟨hj, e⟩ := List.getElem?_eq_some_iff.1 hc
  have := h.1
  exact ⟨by rw [h.2 j hj, e], by omega⟩
theorem stands_str (xs : List Int) (hr : ∀ c ∈ xs, 0 ≤ c ∧ c ≤ 255) : StandsAt (strOfNums xs) 0 xs := by
  refine ⟨by rw [strOfNums_size]; omega, fun j hj => ?_⟩
  rw [Nat.zero_add]
  exact byteI_str xs j hj (hr _ (List.getElem_mem _))

theorem hexD_hexC {d : Int} (h0 : 0 ≤ d) (h1 : d ≤ 15) : hexD (hexC d) = d := by
  unfold hexC hexD
  split
  · rw [if_pos (by omega)]; omega
  · rw [if_neg (by omega), if_pos (by omega)]; omega
theorem hexF_step {s : ByteArray} {f k : Nat} {n d : Int} (hk : k < s.size) (hd : hexD (byteI s k) = d) (h0 : 0 ≤ d) : hexF s (f + 1) k n = hexF s f (k + 1) (n * 16 + d) := by
  rw [hexF, if_neg (by omega), hd, if_neg (by omega)]
theorem uni_ctl {a : ByteArray} {n : Nat} {c : Int} {T : List Int} (h0 : 0 ≤ c) (h1 : c < 32) (h : StandsAt a n (48 :: 48 :: hexC (c / 16) :: hexC (c % 16) :: T)) : uniF a n = (c, (n : Int) + 4, 0) := by
  obtain ⟨b0, l0⟩ := h.get (j := 0) rfl
  obtain ⟨b1, l1⟩ := h.get (j := 1) rfl
  obtain ⟨b2, l2⟩ := h.get (j := 2) rfl
  obtain ⟨b3, l3⟩ := h.get (j := 3) rfl
  have hh : Hex4 a n = (c, 0) := by
    rw [Nat.add_zero] at b0 l0
    have s0 : hexF a 4 n 0 = hexF a 3 (n + 1) (0 * 16 + 0) := hexF_step (d := 0) l0 (by rw [b0]; rfl) (by omega)
    have s1 : hexF a 3 (n + 1) (0 * 16 + 0) = hexF a 2 (n + 2) ((0 * 16 + 0) * 16 + 0) := hexF_step (d := 0) l1 (by rw [b1]; rfl) (by omega)
    have s2 : hexF a 2 (n + 2) ((0 * 16 + 0) * 16 + 0) = hexF a 1 (n + 3) (((0 * 16 + 0) * 16 + 0) * 16 + c / 16) := hexF_step (d := c / 16) l2 (by rw [b2]; exact hexD_hexC (by omega) (by omega)) (by omega)
    have s3 : hexF a 1 (n + 3) (((0 * 16 + 0) * 16 + 0) * 16 + c / 16) = hexF a 0 (n + 4) ((((0 * 16 + 0) * 16 + 0) * 16 + c / 16) * 16 + c % 16) := hexF_step (d := c % 16) l3 (by rw [b3]; exact hexD_hexC (by omega) (by omega)) (by omega)
    unfold Hex4
    rw [s0, s1, s2, s3]
    rw [hexF]
    congr 1
    omega
  unfold uniF
  rw [hh, if_neg (by simp), if_neg (by simp; omega), if_pos (by left; show c < 55296; omega)]
theorem quoted_esc {a : ByteArray} {n f : Nat} {c : Int} {T out : List Int} (h0 : 0 ≤ c) (h1 : c ≤ 255) (h : StandsAt a n (escB c ++ T)) : quotedF a (f + 1) n out = quotedF a f (n + (escB c).length) (out ++ [c]) := by
  have two : ∀ x : Int, escB c = [92, x] → x ≠ 117 → unE x = c → 0 ≤ c → quotedF a (f + 1) n out = quotedF a f (n + (escB c).length) (out ++ [c]) := by
    intro x he hx hu hc
    rw [he] at h ⊢
    obtain ⟨b0, l0⟩ := h.get (j := 0) rfl
    obtain ⟨b1, l1⟩ := h.get (j := 1) rfl
    rw [Nat.add_zero] at b0 l0
    rw [quotedF, if_neg (by omega), if_neg (by omega), if_neg (by omega), if_neg (by omega), if_neg (by omega), b1, if_neg hx, hu, if_neg (by omega)]
    rfl
  by_cases g1 : c = 34
  · subst g1; exact two 34 rfl (by omega) rfl (by omega)
  by_cases g2 : c = 92
  · subst g2; exact two 92 rfl (by omega) rfl (by omega)
  by_cases g3 : c = 8
  · subst g3; exact two 98 rfl (by omega) rfl (by omega)
  by_cases g4 : c = 12
  · subst g4; exact two 102 rfl (by omega) rfl (by omega)
  by_cases g5 : c = 10
  · subst g5; exact two 110 rfl (by omega) rfl (by omega)
  by_cases g6 : c = 13
  · subst g6; exact two 114 rfl (by omega) rfl (by omega)
  by_cases g7 : c = 9
  · subst g7; exact two 116 rfl (by omega) rfl (by omega)
  have he : escB c = if c < 32 then [92, 117, 48, 48, hexC (c / 16), hexC (c % 16)] else [c] := by
    unfold escB
    rw [if_neg g1, if_neg g2, if_neg g3, if_neg g4, if_neg g5, if_neg g6, if_neg g7]
  by_cases g8 : c < 32
  · rw [if_pos g8] at he
    rw [he] at h ⊢
    obtain ⟨b0, l0⟩ := h.get (j := 0) rfl
    obtain ⟨b1, l1⟩ := h.get (j := 1) rfl
    rw [Nat.add_zero] at b0 l0
    have hu : uniF a (n + 2) = (c, ((n + 2 : Nat) : Int) + 4, 0) := uni_ctl h0 g8 (T := T) (StandsAt.skip (L := [92, 117]) h)
    rw [quotedF, if_neg (by omega), if_neg (by omega), if_neg (by omega), if_neg (by omega), if_neg (by omega), if_pos b1, hu, if_neg (by simp)]
    rw [Lib.encodeRuneZ_one h0 (by omega)]
    have : (((n + 2 : Nat) : Int) + 4).toNat = n + 6 := by omega
    simp only [this]
    rfl
  · rw [if_neg g8] at he
    rw [he] at h ⊢
    obtain ⟨b0, l0⟩ := h.get (j := 0) rfl
    rw [Nat.add_zero] at b0 l0
    rw [quotedF, if_neg (by omega), if_neg (by omega), if_neg (by omega), if_pos (by omega), b0]
    rfl
theorem quoted_all {a : ByteArray} : ∀ (l : List Int) (n f : Nat) (out : List Int), (∀ c ∈ l, 0 ≤ c ∧ c ≤ 255) → StandsAt a n (escL l ++ [34]) → l.length < f → quotedF a f n out = (out ++ l, ((n + (escL l).length + 1 : Nat) : Int), 0)
  | [], n, f, out, _, h, hf => by
    obtain ⟨f, rfl⟩ : ∃ g, f = g + 1 := ⟨f - 1, by simp at hf; omega⟩
    obtain ⟨b0, l0⟩ := h.get (j := 0) rfl
    rw [Nat.add_zero] at b0 l0
    rw [quotedF, if_neg (by omega), if_pos b0]
    simp [escL]
  | c :: r, n, f, out, hr, h, hf => by
    obtain ⟨f, rfl⟩ : ∃ g, f = g + 1 := ⟨f - 1, by simp at hf; omega⟩
    have hc := hr c (by simp)
    simp only [escL, List.append_assoc] at h
    rw [quoted_esc hc.1 hc.2 h, quoted_all r _ f _ (fun x hx => hr x (by simp [hx])) (StandsAt.skip h) (by simp at hf; omega)]
    simp [escL]
    omega
end Go.Proofs.YtbpdbmjfnbpihaaDoor
