/- The program's UTF-8 (utf): head, scalar, width, Decode, Len, Valid: what they compute. -/
import Derived.Test.YtfegnmbdgdjkgaaGreatU03x
namespace Go.Proofs.YtfegnmbdgdjkgaaGreat
open Go.RowKit

theorem and192_nat : ∀ a : Fin 256, a.val &&& 192 = a.val / 64 * 64 := by decide +kernel
theorem u8_and192 (x : Int) (h₀ : 0 ≤ x) (h₁ : x < 256) : bits .and .u8 x 192 = x / 64 * 64 := by
  obtain ⟨a, rfl⟩ := Int.eq_ofNat_of_zero_le h₀
  have ha : a < 256 := by omega
  have := (bits_nat .u8 8 (by decide) wraps_u8 a 192 ha (by decide)).1
  rw [show ((192 : Nat) : Int) = 192 from rfl] at this
  rw [this, and192_nat ⟨a, ha⟩]
  simp
def HedR (b : Int) (w : World) (e : Ending) (w' : World) : Prop := e = .returned (.tuple #[.int .i64 ((leadW b).1 : Int), .int .i64 (leadW b).2.2]) ∧ w = w'
def widthD (r : Int) : Int := if r < 128 then 1 else if r < 2048 then 2 else if r < 65536 then 3 else 4
/-- What the least number of a length says of the length. -/
theorem fits_width {n : Nat} {least d : Int} (h0 : 0 ≤ d) (h : (n = 1 ∧ least = 0 ∧ d < 128) ∨ (n = 2 ∧ least = 128 ∧ d < 2048) ∨ (n = 3 ∧ least = 2048 ∧ d < 65536) ∨ (n = 4 ∧ least = 65536)) : (charB d = true ∧ widthD d = n) ↔ outside least d = false := by
  constructor
  · rintro ⟨h1, h2⟩
    have h3 := (charB_iff d).1 h1
    obtain ⟨k1, k2, k3⟩ := h3
    refine outside_no ?_ (by omega) (by omega)
    unfold widthD at h2
    split at h2
    · omega
    · split at h2
      · omega
      · split at h2 <;> omega
  · intro h1
    have h2 : ¬ (d < least ∨ 1114111 < d ∨ (55296 ≤ d ∧ d < 57344)) := fun h => by rw [outside_yes h] at h1; cases h1
    refine ⟨(charB_iff d).2 ⟨h0, by omega, by omega⟩, ?_⟩
    unfold widthD
    split
    · omega
    · split
      · omega
      · split <;> omega
def UdcR (s : ByteArray) (p : Nat) (w : World) (e : Ending) (w' : World) : Prop := ∃ r : Int, e = .returned (.tuple #[.int .i64 r, .int .i64 (charAt s p)]) ∧ w = w'
def LenR (s : ByteArray) (w : World) (e : Ending) (w' : World) : Prop := ∃ n k : Int, e = .returned (.tuple #[.int .i64 n, .int .i64 k]) ∧ k = (if validS s = true then 0 else 5) ∧ w = w'
def UvlR (b : Bool) (w : World) (e : Ending) (w' : World) : Prop := e = .returned (.bool b) ∧ w = w'
end Go.Proofs.YtfegnmbdgdjkgaaGreat
