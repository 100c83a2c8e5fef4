/- How long the punctuation at a place is: what punct of layer 35 computes. -/
import Derived.Test.YtbpdbmjfnbpihaaDoorL5
namespace Go.Proofs.YtbpdbmjfnbpihaaDoor
open Go.RowKit

def twoL : List (List UInt8) := [[46, 46], [124, 61], [61, 61], [33, 61], [60, 61], [62, 61], [47, 47]]
def twoB (s : ByteArray) (i : Nat) : Bool := twoL.any fun k => (s.extract i (i + 2)).toList == k
def oneB (c : Int) : Bool := decide (0 ≤ Lib.indexByte [46, 91, 93, 123, 125, 40, 41, 124, 44, 58, 59, 63, 61, 60, 62, 43, 45, 42, 47, 37] c.toNat.toUInt8)
def punctN (s : ByteArray) (i : Nat) : Nat := if i + 1 < s.size ∧ twoB s i = true then 2 else if oneB (byteI s i) = true then 1 else 0
theorem punctN_le {s : ByteArray} {i : Nat} (h : i < s.size) : i + punctN s i ≤ s.size := by
  unfold punctN
  split
  · omega
  · split <;> omega
theorem idx20 (c : Int) (w : World) : Calls Tryd.prog 34 #[.string ⟨#[46, 91, 93, 123, 125, 40, 41, 124, 44, 58, 59, 63, 61, 60, 62, 43, 45, 42, 47, 37]⟩, .int .u8 c] w fun e w' =>
    e = .returned (.int .i64 (Lib.indexByte [46, 91, 93, 123, 125, 40, 41, 124, 44, 58, 59, 63, 61, 60, 62, 43, 45, 42, 47, 37] c.toNat.toUInt8)) ∧ w = w' := (Tryd.strings_IndexByte _ c w).mono fun _ _ h => ⟨h.1, h.2.symm⟩

set_option maxRecDepth 8000 in
set_option maxHeartbeats 1600000 in
theorem punct32 (s : ByteArray) (i : Nat) (w : World) (hs : s.size ≤ 1099511627776) (hi : i < s.size) :
    Calls Tryd.prog 32 #[.string s, .int .i64 i] w fun e w' => e = .returned (.int .i64 (punctN s i : Int)) ∧ w = w' := by
  have HP := Lib.hid (show punctN s i = if i + 1 < s.size ∧ twoB s i = true then 2 else if oneB (byteI s i) = true then 1 else 0 from rfl)
  have HT := Lib.hid (show twoB s i = twoL.any (fun k => (s.extract i (i + 2)).toList == k) from rfl)
  have H1 := Lib.hid (show oneB (byteI s i) = decide (0 ≤ Lib.indexByte [46, 91, 93, 123, 125, 40, 41, 124, 44, 58, 59, 63, 61, 60, 62, 43, 45, 42, 47, 37] (byteI s i).toNat.toUInt8) from rfl)
  have hb := byteI_eq hi
  generalize hz : Lib.indexByte [46, 91, 93, 123, 125, 40, 41, 124, 44, 58, 59, 63, 61, 60, 62, 43, 45, 42, 47, 37] (byteI s i).toNat.toUInt8 = z at *
  have HZ := Lib.hid hz
  clear hz
  by_cases h2 : i + 1 < s.size
  · go_enter Tryd.func32, Tryd.ntmps32
    go_wp2_with (go_at_call 34; refine (idx20 _ _).mono ?_; rintro e w' ⟨rfl, rfl⟩; rw [HZ.out])
    all_goals
      go_ret
      refine ⟨ret_int ?_, rfl⟩
      rw [HP.out]
      have ht := HT.out
      have h1 := H1.out
      simp only [twoL, List.any_cons, List.any_nil] at ht
      first
        | (rw [if_pos ⟨h2, by rw [ht]; simp [*]⟩]; rfl)
        | (rw [if_neg (fun g => by rw [ht] at g; simp_all), if_pos (by rw [h1]; simp; omega)]; rfl)
        | (rw [if_neg (fun g => by rw [ht] at g; simp_all), if_neg (by rw [h1]; simp; omega)]; rfl)
  · go_enter Tryd.func32, Tryd.ntmps32
    go_wp2_with (go_at_call 34; refine (idx20 _ _).mono ?_; rintro e w' ⟨rfl, rfl⟩; rw [HZ.out])
    all_goals
      go_ret
      refine ⟨ret_int ?_, rfl⟩
      rw [HP.out, if_neg (fun g => h2 g.1)]
      have h1 := H1.out
      first
        | (rw [if_pos (by rw [h1]; simp; omega)]; rfl)
        | (rw [if_neg (by rw [h1]; simp; omega)]; rfl)
end Go.Proofs.YtbpdbmjfnbpihaaDoor
