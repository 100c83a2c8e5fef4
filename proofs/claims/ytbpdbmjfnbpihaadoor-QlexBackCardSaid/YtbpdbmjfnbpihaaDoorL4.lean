/- Four hexadecimal digits, and what follows a backslash and u: what hex and unicode of layer 35 compute. -/
import Derived.Test.YtbpdbmjfnbpihaaDoorL3
import Derived.Below
import Derived.WalkSmall
namespace Go.Proofs.YtbpdbmjfnbpihaaDoor
open Go.RowKit

def hexD (c : Int) : Int := if 48 ≤ c ∧ c ≤ 57 then c - 48 else if 97 ≤ c ∧ c ≤ 102 then c - 87 else if 65 ≤ c ∧ c ≤ 70 then c - 55 else -1
def hexF (s : ByteArray) : Nat → Nat → Int → Int × Int
  | 0, _, n => (n, 0)
  | f + 1, k, n => if ¬ k < s.size then (0, 4) else if hexD (byteI s k) < 0 then (0, 3) else hexF s f (k + 1) (n * 16 + hexD (byteI s k))
def Hex4 (s : ByteArray) (i : Nat) : Int × Int := hexF s 4 i 0
theorem byteI_range {s : ByteArray} {n : Nat} (h : n < s.size) : 0 ≤ byteI s n ∧ byteI s n ≤ 255 := by
  rw [← byteI_eq h]
  have := UInt8.toNat_lt s[n]
  omega
theorem ret_int2 {k l : IntKind} {a b c d : Int} (h : a = b) (g : c = d) : Ending.returned (.tuple #[.int k a, .int l c]) = .returned (.tuple #[.int k b, .int l d]) := by rw [h, g]
theorem ret_int3 {k l m : IntKind} {a b c d e f : Int} (h : a = b) (g : c = d) (i : e = f) : Ending.returned (.tuple #[.int k a, .int l c, .int m e]) = .returned (.tuple #[.int k b, .int l d, .int m f]) := by rw [h, g, i]
theorem digitB_true {c : Int} (h : 48 ≤ c ∧ c ≤ 57) : digitB c = true := by simp [digitB, h]
theorem digitB_false {c : Int} (h : ¬ (48 ≤ c ∧ c ≤ 57)) : digitB c = false := by simp [digitB]; omega

set_option maxRecDepth 8000 in
set_option maxHeartbeats 1600000 in
theorem hex50 (s : ByteArray) (i : Nat) (w : World) (hs : s.size ≤ 1099511627776) (hi : i ≤ s.size) :
    Calls Tryd.prog 50 #[.string s, .int .i64 i] w fun e w' => e = .returned (.tuple #[.int .i64 (Hex4 s i).1, .int .i64 (Hex4 s i).2]) ∧ 0 ≤ (Hex4 s i).1 ∧ (Hex4 s i).1 ≤ 65535 ∧ w = w' := by
  go_enter Tryd.func50, Tryd.ntmps50
  go_wp2_with fail
  go_simp
  go_loop [6, 7] (fun t k => ∃ (n : Int) (j : Nat), j ≤ 4 ∧ i + j ≤ s.size ∧ t = .int .i64 n ∧ k = .int .i64 ((i + j : Nat) : Int) ∧ 0 ≤ n ∧ ((j = 0 ∧ n ≤ 0) ∨ (j = 1 ∧ n ≤ 15) ∨ (j = 2 ∧ n ≤ 255) ∨ (j = 3 ∧ n ≤ 4095) ∨ (j = 4 ∧ n ≤ 65535)) ∧ hexF s (4 - j) (i + j) n = Hex4 s i) (fun _ k => i + 4 - (intOf k).toNat)
  case atStart => exact ⟨0, 0, by omega, by omega, rfl, rfl, by omega, by omega, rfl⟩
  case round =>
    obtain ⟨n, j, hj, hij, rfl, rfl, hn0, hn1, hr⟩ := hrel
    have HR := Lib.hid hr
    clear hr
    by_cases hj4 : j = 4
    · have HN := Lib.hid hn1
      clear hn1
      subst hj4
      have HZ := Lib.hid (show Hex4 s i = (n, 0) by rw [← HR.out]; rfl)
      go_wp2_with fail
      go_ret2
      refine ⟨ret_int2 (by rw [HZ.out]) (by rw [HZ.out]), by rw [HZ.out]; exact hn0, by rw [HZ.out]; have := HN.out; show n ≤ 65535; omega, rfl⟩
    · have hj3 : j < 4 := by omega
      clear hj hj4
      have hf : 4 - j = (3 - j) + 1 := by omega
      have HS := Lib.hid (show Hex4 s i = if ¬ i + j < s.size then (0, 4) else if hexD (byteI s (i + j)) < 0 then (0, 3) else hexF s (3 - j) (i + j + 1) (n * 16 + hexD (byteI s (i + j))) by rw [← HR.out, hf]; rfl)
      have HN := Lib.hid hn1
      clear hn1 hf
      by_cases hlt : i + j < s.size
      · have hb := byteI_eq hlt
        have hrg := byteI_range hlt
        have HS2 := Lib.hid (show Hex4 s i = if hexD (byteI s (i + j)) < 0 then (0, 3) else hexF s (3 - j) (i + j + 1) (n * 16 + hexD (byteI s (i + j))) by rw [HS.out, if_neg (by omega)])
        clear HS
        have hcls : (48 ≤ byteI s (i + j) ∧ byteI s (i + j) ≤ 57) ∨ (97 ≤ byteI s (i + j) ∧ byteI s (i + j) ≤ 102) ∨ (65 ≤ byteI s (i + j) ∧ byteI s (i + j) ≤ 70) ∨ hexD (byteI s (i + j)) = -1 := by unfold hexD; omega
        have hn5 : n ≤ 4095 := by have := HN.out; omega
        rcases hcls with h | h | h | h
        · have hd : digitB (byteI s (i + j)) = true := digitB_true h
          have hx : hexD (byteI s (i + j)) = byteI s (i + j) - 48 := by unfold hexD; rw [if_pos h]
          have HZ := Lib.hid (show Hex4 s i = hexF s (3 - j) (i + j + 1) (n * 16 + (byteI s (i + j) - 48)) by rw [HS2.out, hx, if_neg (by omega)])
          clear hx HS2
          go_wp2_with (go_at_call 28; refine (digit28 _ _).mono ?_; rintro e w' ⟨rfl, rfl⟩)
          go_round
          case rel => exact ⟨n * 16 + (byteI s (i + j) - 48), j + 1, by omega, by omega, by go_num, by go_num, by omega, by have := HN.out; omega, by rw [HZ.out, show 4 - (j + 1) = 3 - j by omega]; rfl⟩
          case measure => simp [intOf]; omega
        · have hd : digitB (byteI s (i + j)) = false := digitB_false (by omega)
          have hx : hexD (byteI s (i + j)) = byteI s (i + j) - 87 := by unfold hexD; rw [if_neg (by omega), if_pos h]
          have HZ := Lib.hid (show Hex4 s i = hexF s (3 - j) (i + j + 1) (n * 16 + (byteI s (i + j) - 87)) by rw [HS2.out, hx, if_neg (by omega)])
          clear hx HS2
          go_wp2_with (go_at_call 28; refine (digit28 _ _).mono ?_; rintro e w' ⟨rfl, rfl⟩)
          go_round
          case rel => exact ⟨n * 16 + (byteI s (i + j) - 87), j + 1, by omega, by omega, by go_num, by go_num, by omega, by have := HN.out; omega, by rw [HZ.out, show 4 - (j + 1) = 3 - j by omega]; rfl⟩
          case measure => simp [intOf]; omega
        · have hd : digitB (byteI s (i + j)) = false := digitB_false (by omega)
          have hx : hexD (byteI s (i + j)) = byteI s (i + j) - 55 := by unfold hexD; rw [if_neg (by omega), if_neg (by omega), if_pos h]
          have HZ := Lib.hid (show Hex4 s i = hexF s (3 - j) (i + j + 1) (n * 16 + (byteI s (i + j) - 55)) by rw [HS2.out, hx, if_neg (by omega)])
          clear hx HS2
          go_wp2_with (go_at_call 28; refine (digit28 _ _).mono ?_; rintro e w' ⟨rfl, rfl⟩)
          go_round
          case rel => exact ⟨n * 16 + (byteI s (i + j) - 55), j + 1, by omega, by omega, by go_num, by go_num, by omega, by have := HN.out; omega, by rw [HZ.out, show 4 - (j + 1) = 3 - j by omega]; rfl⟩
          case measure => simp [intOf]; omega
        · have hno : ¬ (48 ≤ byteI s (i + j) ∧ byteI s (i + j) ≤ 57) ∧ ¬ (97 ≤ byteI s (i + j) ∧ byteI s (i + j) ≤ 102) ∧ ¬ (65 ≤ byteI s (i + j) ∧ byteI s (i + j) ≤ 70) := by unfold hexD at h; omega
          have hd : digitB (byteI s (i + j)) = false := digitB_false hno.1
          have HZ := Lib.hid (show Hex4 s i = (0, 3) by rw [HS2.out, if_pos (by omega)])
          have HNo := Lib.hid hno
          clear h HS2 hno
          go_wp2_with (go_at_call 28; refine (digit28 _ _).mono ?_; rintro e w' ⟨rfl, rfl⟩)
          all_goals first
            | (exfalso; have := HNo.out; omega)
            | skip
          all_goals
            go_ret2
            exact ⟨ret_int2 (by rw [HZ.out]) (by rw [HZ.out]), by rw [HZ.out]; exact Int.le_refl _, by rw [HZ.out]; exact Int.zero_le_ofNat _, rfl⟩
      · have HZ := Lib.hid (show Hex4 s i = (0, 4) by rw [HS.out, if_pos (by omega)])
        go_wp2_with fail
        go_ret2
        exact ⟨ret_int2 (by rw [HZ.out]) (by rw [HZ.out]), by rw [HZ.out]; exact Int.le_refl _, by rw [HZ.out]; exact Int.zero_le_ofNat _, rfl⟩
end Go.Proofs.YtbpdbmjfnbpihaaDoor
