/- What quoted of layer 35 reads: the string for which a quoted one stands, and where it ends. -/
import Derived.Test.YtbpdbmjfnbpihaaDoorL5
import Derived.Laws.AppendOwn
import Derived.Laws.BytesArg
import Derived.Maps.AppendAt
namespace Go.Proofs.YtbpdbmjfnbpihaaDoor
open Go.RowKit

def unE (c : Int) : Int := if c = 34 then 34 else if c = 92 then 92 else if c = 47 then 47 else if c = 98 then 8 else if c = 102 then 12 else if c = 110 then 10 else if c = 114 then 13 else if c = 116 then 9 else -1
def escI (c : Int) : Int := Lib.indexByte [34, 92, 47, 98, 102, 110, 114, 116] c.toNat.toUInt8
theorem escI_nat : ∀ n : Nat, n < 256 → (Lib.indexByte [34, 92, 47, 98, 102, 110, 114, 116] n.toUInt8, unE n) ∈ [((0 : Int), (34 : Int)), (1, 92), (2, 47), (3, 8), (4, 12), (5, 10), (6, 13), (7, 9), (-1, -1)] := by decide +kernel
theorem escI_cases {c : Int} (h0 : 0 ≤ c) (h1 : c ≤ 255) : (escI c = 0 ∧ unE c = 34) ∨ (escI c = 1 ∧ unE c = 92) ∨ (escI c = 2 ∧ unE c = 47) ∨ (escI c = 3 ∧ unE c = 8) ∨ (escI c = 4 ∧ unE c = 12) ∨ (escI c = 5 ∧ unE c = 10) ∨ (escI c = 6 ∧ unE c = 13) ∨ (escI c = 7 ∧ unE c = 9) ∨ (escI c = -1 ∧ unE c = -1) := by
  have h := escI_nat c.toNat (by omega)
  have e : ((c.toNat : Nat) : Int) = c := by omega
  rw [e] at h
  simpa [escI] using h

def quotedF (s : ByteArray) : Nat → Nat → List Int → List Int × Int × Int
  | 0, _, _ => ([], 0, 4)
  | f + 1, i, out =>
    if ¬ i < s.size then ([], 0, 4)
    else if byteI s i = 34 then (out, (i : Int) + 1, 0)
    else if byteI s i < 32 then ([], 0, 3)
    else if byteI s i ≠ 92 then quotedF s f (i + 1) (out ++ [byteI s i])
    else if ¬ i + 1 < s.size then ([], 0, 4)
    else if byteI s (i + 1) = 117 then (if (uniF s (i + 2)).2.2 ≠ 0 then ([], 0, (uniF s (i + 2)).2.2) else quotedF s f (uniF s (i + 2)).2.1.toNat (out ++ Lib.encodeRuneZ (uniF s (i + 2)).1))
    else if unE (byteI s (i + 1)) < 0 then ([], 0, 3) else quotedF s f (i + 2) (out ++ [unE (byteI s (i + 1))])

/-! ### Bounds -/
theorem hexD_range (c : Int) : hexD c ≤ 15 := by unfold hexD; split <;> (try split) <;> (try split) <;> omega
theorem hexF_0 (s : ByteArray) (k : Nat) (n : Int) (h0 : 0 ≤ n) (h1 : n ≤ 65535) : 0 ≤ (hexF s 0 k n).1 ∧ (hexF s 0 k n).1 ≤ 65535 := ⟨h0, h1⟩
theorem hexF_s {s : ByteArray} {f : Nat} {M : Int} (ih : ∀ (k : Nat) (n : Int), 0 ≤ n → n ≤ M * 16 + 15 → 0 ≤ (hexF s f k n).1 ∧ (hexF s f k n).1 ≤ 65535) (k : Nat) (n : Int) (h0 : 0 ≤ n) (h1 : n ≤ M) : 0 ≤ (hexF s (f + 1) k n).1 ∧ (hexF s (f + 1) k n).1 ≤ 65535 := by
  rw [hexF]
  have hd := hexD_range (byteI s k)
  split
  · simp
  · split
    · simp
    · exact ih _ _ (by omega) (by omega)
theorem Hex4_range (s : ByteArray) (i : Nat) : 0 ≤ (Hex4 s i).1 ∧ (Hex4 s i).1 ≤ 65535 :=
  hexF_s (M := 0) (hexF_s (M := 15) (hexF_s (M := 255) (hexF_s (M := 4095) (hexF_0 s)))) i 0 (by omega) (by omega)
theorem hexF_end (s : ByteArray) : ∀ (f k : Nat) (n : Int), k ≤ s.size → (hexF s f k n).2 = 0 → k + f ≤ s.size
  | 0, k, n, hk, _ => hk
  | f + 1, k, n, hk, h => by
    rw [hexF] at h
    split at h
    · simp at h
    · split at h
      · simp at h
      · have := hexF_end s f (k + 1) _ (by omega) h
        omega
theorem hexF_err (s : ByteArray) : ∀ (f k : Nat) (n : Int), (hexF s f k n).2 = 0 ∨ (hexF s f k n).2 = 3 ∨ (hexF s f k n).2 = 4
  | 0, k, n => .inl rfl
  | f + 1, k, n => by
    rw [hexF]
    split
    · simp
    · split
      · simp
      · exact hexF_err s f _ _
theorem uniF_range (s : ByteArray) (i : Nat) : 0 ≤ (uniF s i).1 ∧ (uniF s i).1 ≤ 1114111 := by
  have h1 := Hex4_range s i
  have h2 := Hex4_range s (i + 6)
  unfold uniF uniT
  repeat' split
  all_goals (simp only [Int.le_refl, true_and]; first | omega | decide)
theorem uniF_end {s : ByteArray} {i : Nat} (hi : i ≤ s.size) (h : (uniF s i).2.2 = 0) : ((uniF s i).2.1 = (i : Int) + 4 ∧ i + 4 ≤ s.size) ∨ ((uniF s i).2.1 = (i : Int) + 10 ∧ i + 10 ≤ s.size) := by
  unfold uniF uniT at *
  by_cases g0 : (Hex4 s i).2 ≠ 0
  · rw [if_pos g0] at h; exact absurd h g0
  have e0 : i + 4 ≤ s.size := hexF_end s 4 i 0 hi (Decidable.not_not.1 g0)
  rw [if_neg g0] at *
  by_cases g1 : 56320 ≤ (Hex4 s i).1 ∧ (Hex4 s i).1 ≤ 57343
  · rw [if_pos g1] at h; simp at h
  rw [if_neg g1] at *
  by_cases g2 : (Hex4 s i).1 < 55296 ∨ 57343 < (Hex4 s i).1
  · rw [if_pos g2]; exact .inl ⟨rfl, e0⟩
  rw [if_neg g2] at *
  by_cases g3 : ¬ i + 4 < s.size
  · rw [if_pos g3] at h; simp at h
  rw [if_neg g3] at *
  by_cases g4 : byteI s (i + 4) ≠ 92
  · rw [if_pos g4] at h; simp at h
  rw [if_neg g4] at *
  by_cases g5 : ¬ i + 5 < s.size
  · rw [if_pos g5] at h; simp at h
  rw [if_neg g5] at *
  by_cases g6 : byteI s (i + 5) ≠ 117
  · rw [if_pos g6] at h; simp at h
  rw [if_neg g6] at *
  by_cases g7 : (Hex4 s (i + 6)).2 ≠ 0
  · rw [if_pos g7] at h; exact absurd h g7
  have e1 : i + 6 + 4 ≤ s.size := hexF_end s 4 (i + 6) 0 (by omega) (Decidable.not_not.1 g7)
  rw [if_neg g7] at *
  by_cases g8 : (Hex4 s (i + 6)).1 < 56320 ∨ 57343 < (Hex4 s (i + 6)).1
  · rw [if_pos g8] at h; simp at h
  rw [if_neg g8]
  exact .inr ⟨rfl, by omega⟩
theorem quotedF_end (s : ByteArray) : ∀ (f n : Nat) (out : List Int), n ≤ s.size → (quotedF s f n out).2.2 = 0 → (n : Int) < (quotedF s f n out).2.1 ∧ (quotedF s f n out).2.1 ≤ s.size
  | 0, n, out, hn, h => by simp [quotedF] at h
  | f + 1, n, out, hn, h => by
    rw [quotedF] at *
    split at h
    · simp at h
    rename_i g0
    rw [if_neg g0] at *
    split at h
    · rename_i g1; rw [if_pos g1]; show (n : Int) < (n : Int) + 1 ∧ (n : Int) + 1 ≤ s.size; omega
    rename_i g1
    rw [if_neg g1] at *
    split at h
    · simp at h
    rename_i g2
    rw [if_neg g2] at *
    split at h
    · rename_i g3; rw [if_pos g3]; have := quotedF_end s f (n + 1) _ (by omega) h; omega
    rename_i g3
    rw [if_neg g3] at *
    split at h
    · simp at h
    rename_i g4
    rw [if_neg g4] at *
    split at h
    · rename_i g5
      rw [if_pos g5]
      split at h
      · rename_i g6; exact absurd h g6
      · rename_i g6
        rw [if_neg g6]
        have hu := uniF_end (s := s) (i := n + 2) (by omega) (by simpa using g6)
        have := quotedF_end s f _ _ (by omega) h
        omega
    · rename_i g5
      rw [if_neg g5] at *
      split at h
      · simp at h
      · rename_i g6; rw [if_neg g6]; have := quotedF_end s f (n + 2) _ (by omega) h; omega
end Go.Proofs.YtbpdbmjfnbpihaaDoor
