/- Where a number ends: it hangs on the string and the place alone. -/
import Derived.Test.YtbpdbmjfnbpihaaDoorL1
import Derived.Test.YtbpdbmjfnbpihaaDoorShelf
import Derived.Deep.DeepCutAuto
namespace Go.Proofs.YtbpdbmjfnbpihaaDoor
open Go.RowKit
theorem val_int {k : IntKind} {a b : Int} (h : a = b) : Value.int k a = .int k b := by rw [h]
theorem val_bool {a b : Bool} (h : a = b) : Value.bool a = .bool b := by rw [h]
theorem run43j (s : ByteArray) (j : Int) (i : Nat) (w : World) (hj : j = i) (hs : s.size ≤ maxLen) (hi : i ≤ s.size) :
    Calls Tryd.prog 43 #[.string s, .int .i64 j] w fun e w' => e = .returned (.int .i64 (digEnd s i : Int)) ∧ w = w' := by
  subst hj; exact run43 s i w hs hi
def byteI (s : ByteArray) (n : Nat) : Int := if h : n < s.size then s[n].toNat else -1
theorem byteI_eq {s : ByteArray} {n : Nat} (h : n < s.size) : (s[n].toNat : Int) = byteI s n := by simp [byteI, h]
theorem byteI_out {s : ByteArray} {n : Nat} (h : ¬ n < s.size) : byteI s n = -1 := by simp [byteI, h]
theorem byteI_lt {s : ByteArray} {n : Nat} (h : byteI s n ≠ -1) : n < s.size := Decidable.byContradiction fun g => h (byteI_out g)
def numA (s : ByteArray) (n : Nat) : Nat := if byteI s n = 48 then n + 1 else digEnd s n
def numB (s : ByteArray) (n : Nat) : Nat := if byteI s n = 46 ∧ n + 1 < digEnd s (n + 1) then digEnd s (n + 1) else n
def numK (s : ByteArray) (n : Nat) : Nat := if byteI s (n + 1) = 43 ∨ byteI s (n + 1) = 45 then n + 2 else n + 1
def numC (s : ByteArray) (n : Nat) : Nat := if (byteI s n = 101 ∨ byteI s n = 69) ∧ numK s n < digEnd s (numK s n) then digEnd s (numK s n) else n
theorem numA_le {s : ByteArray} {n : Nat} (h : n < s.size) : numA s n ≤ s.size ∧ n ≤ numA s n := by
  unfold numA
  have h1 := digEnd_le s n (by omega)
  have h2 := le_digEnd s n
  split <;> omega
theorem numB_le {s : ByteArray} {n : Nat} (h : n ≤ s.size) : numB s n ≤ s.size ∧ n ≤ numB s n := by
  unfold numB
  split
  case isTrue g =>
    have h1 := digEnd_le s (n + 1) (byteI_lt (by omega))
    omega
  case isFalse => omega
theorem numC_le {s : ByteArray} {n : Nat} (h : n ≤ s.size) : numC s n ≤ s.size ∧ n ≤ numC s n := by
  unfold numC
  split
  case isTrue g =>
    have hn : n < s.size := byteI_lt (by omega)
    have hk : numK s n ≤ s.size := by
      unfold numK
      split
      case isTrue g2 => have := byteI_lt (s := s) (n := n + 1) (by omega); omega
      case isFalse => omega
    have hk2 : n ≤ numK s n := by unfold numK; split <;> omega
    have h1 := digEnd_le s _ hk
    omega
  case isFalse => omega

set_option maxRecDepth 8000 in
set_option maxHeartbeats 1600000 in
theorem number29 (s : ByteArray) (n : Nat) (w : World) (hs : s.size ≤ maxLen) (hlt : n < s.size) :
    Calls Tryd.prog 29 #[.string s, .int .i64 n] w fun e w' => e = .returned (.int .i64 (numC s (numB s (numA s n)) : Int)) ∧ w = w' := by
  have HS := hs
  unfold maxLen at hs
  obtain ⟨a, ea⟩ : ∃ a, a = numA s n := ⟨_, rfl⟩
  obtain ⟨b, eb⟩ : ∃ b, b = numB s a := ⟨_, rfl⟩
  obtain ⟨c, ec⟩ : ∃ c, c = numC s b := ⟨_, rfl⟩
  rw [← ea, ← eb, ← ec]
  have hale : a ≤ s.size := by rw [ea]; exact (numA_le hlt).1
  have hble : b ≤ s.size := by rw [eb]; exact (numB_le hale).1
  have HA := Lib.hid (show a = if byteI s n = 48 then n + 1 else digEnd s n from ea)
  have HB := Lib.hid (show b = if byteI s a = 46 ∧ a + 1 < digEnd s (a + 1) then digEnd s (a + 1) else a from eb)
  have HC := Lib.hid (show c = if (byteI s b = 101 ∨ byteI s b = 69) ∧ numK s b < digEnd s (numK s b) then digEnd s (numK s b) else b from ec)
  clear ea eb ec
  have h0 := byteI_eq hlt
  go_enter Tryd.func29, Tryd.ntmps29
  go_upto_if 11 with fail
  go_cut [1] (fun i wx => i = .int .i64 (a : Int) ∧ w = wx)
  case first =>
    go_wp2_with (go_at_call 43; refine (run43j _ _ n _ rfl HS (by omega)).mono ?_; rintro e w' ⟨rfl, rfl⟩)
    all_goals
      go_meet
      refine ⟨val_int ?_, rfl⟩
      have hA := HA.out
      simp only [beq_iff_eq, beq_eq_false_iff_ne, ne_eq] at *
      split at hA <;> omega
  case rest =>
    obtain ⟨rfl, rfl⟩ := hcut
    clear HA h0
    go_upto_region 4 with fail
    go_cut [26] (fun c wx => c = .bool (decide (byteI s a = 46)) ∧ w = wx)
    case first =>
      by_cases ha : a < s.size
      · have h1 := byteI_eq ha
        go_wp2_with fail
        all_goals
          go_meet
          refine ⟨val_bool ?_, rfl⟩
          rw [Bool.eq_iff_iff]
          simp
      · have h1 := byteI_out ha
        go_wp2_with fail
        go_meet
        exact ⟨val_bool (by simp [h1]), rfl⟩
    case rest =>
      obtain ⟨rfl, rfl⟩ := hcut
      go_upto_if 26 with fail
      go_cut [1] (fun i wx => i = .int .i64 (b : Int) ∧ w = wx)
      case first =>
        by_cases h46 : byteI s a = 46
        · have ha : a < s.size := byteI_lt (by omega)
          have hd : decide (byteI s a = 46) = true := by simp [h46]
          go_wp2_with (go_at_call 43; refine (run43j _ _ (a + 1) _ (by omega) HS (by omega)).mono ?_; rintro e w' ⟨rfl, rfl⟩)
          all_goals
            go_meet
            refine ⟨val_int ?_, rfl⟩
            have hB := HB.out
            split at hB <;> omega
        · have hd : decide (byteI s a = 46) = false := by simp [h46]
          go_wp2_with fail
          go_meet
          refine ⟨val_int ?_, rfl⟩
          have hB := HB.out
          split at hB <;> omega
      case rest =>
        obtain ⟨rfl, rfl⟩ := hcut
        clear HB
        go_upto_region 8 with fail
        go_cut [51] (fun c wx => c = .bool (decide (byteI s b = 101 ∨ byteI s b = 69)) ∧ w = wx)
        case first =>
          by_cases ha : b < s.size
          · have h1 := byteI_eq ha
            go_wp2_with fail
            all_goals
              go_meet
              refine ⟨val_bool ?_, rfl⟩
              rw [Bool.eq_iff_iff]
              simp [*]
          · have h1 := byteI_out ha
            go_wp2_with fail
            go_meet
            exact ⟨val_bool (by simp [h1]), rfl⟩
        case rest =>
          obtain ⟨rfl, rfl⟩ := hcut
          go_upto_if 51 with fail
          go_cut [1] (fun i wx => i = .int .i64 (c : Int) ∧ w = wx)
          case first =>
            by_cases h46 : byteI s b = 101 ∨ byteI s b = 69
            · have ha : b < s.size := byteI_lt (by omega)
              have hd : decide (byteI s b = 101 ∨ byteI s b = 69) = true := by simp [h46]
              have hK := Lib.hid (show numK s b = if byteI s (b + 1) = 43 ∨ byteI s (b + 1) = 45 then b + 2 else b + 1 from rfl)
              have H46 := Lib.hid h46
              clear h46
              by_cases hb1 : b + 1 < s.size
              · have h2 := byteI_eq hb1
                by_cases hpm : byteI s (b + 1) = 43 ∨ byteI s (b + 1) = 45
                · have HK := Lib.hid (show numK s b = b + 2 by rw [hK.out, if_pos hpm])
                  rcases hpm with hpm | hpm
                  all_goals
                    go_wp2_with (go_at_call 43; refine (run43j _ _ (b + 2) _ (by omega) HS (by omega)).mono ?_; rintro e w' ⟨rfl, rfl⟩)
                    all_goals
                      go_meet
                      refine ⟨val_int ?_, rfl⟩
                      have hC := HC.out
                      simp only [HK.out, H46.out, true_and] at hC
                      split at hC <;> omega
                · have HK := Lib.hid (show numK s b = b + 1 by rw [hK.out, if_neg hpm])
                  have hp1 : ¬ byteI s (b + 1) = 43 := by omega
                  have hp2 : ¬ byteI s (b + 1) = 45 := by omega
                  have hq1 : (byteI s (b + 1) == 43) = false := by simp [hp1]
                  have hq2 : (byteI s (b + 1) == 45) = false := by simp [hp2]
                  clear hpm
                  go_wp2_with (go_at_call 43; refine (run43j _ _ (b + 1) _ (by omega) HS (by omega)).mono ?_; rintro e w' ⟨rfl, rfl⟩)
                  all_goals
                    go_meet
                    refine ⟨val_int ?_, rfl⟩
                    have hC := HC.out
                    simp only [HK.out, H46.out, true_and] at hC
                    split at hC <;> omega
              · have h2 := byteI_out hb1
                have HK := Lib.hid (show numK s b = b + 1 by rw [hK.out, if_neg (by omega)])
                clear h2
                go_wp2_with (go_at_call 43; refine (run43j _ _ (b + 1) _ (by omega) HS (by omega)).mono ?_; rintro e w' ⟨rfl, rfl⟩)
                all_goals
                  go_meet
                  refine ⟨val_int ?_, rfl⟩
                  have hC := HC.out
                  simp only [HK.out, H46.out, true_and] at hC
                  split at hC <;> omega
            · have hd : decide (byteI s b = 101 ∨ byteI s b = 69) = false := by simp [h46]
              go_wp2_with fail
              go_meet
              refine ⟨val_int ?_, rfl⟩
              have hC := HC.out
              rw [if_neg (fun g => h46 g.1)] at hC
              omega
          case rest =>
            obtain ⟨rfl, rfl⟩ := hcut
            go_wp2_with fail
            go_ret
            exact ⟨rfl, rfl⟩
end Go.Proofs.YtbpdbmjfnbpihaaDoor
