/- A walk of the two functions Needs (the program's and the reference's). -/
import Derived.Test.YtbpdbmjfnbpihaaProg
import Derived.WalkKit
import Derived.WalkSpells
import Derived.WalkLawsBesides
import Derived.LoopTactic
import Derived.BigQuiet
import Derived.Deep.QuietTactic
import Derived.Lib.Hide
namespace Go.Proofs.Ytbpdbmjfnbpihaa
open Go.RowKit

structure StepD where
  byIndex : Bool
  key : ByteArray
  index : Int

structure SelD where
  each : Bool
  at_ : StepD

def stepB (x y : StepD) : Bool := x.byIndex == y.byIndex && (x.key.toList == y.key.toList && x.index == y.index)

theorem ret_bool {a b : Bool} (h : a = b) : Ending.returned (.bool a) = .returned (.bool b) := by rw [h]

theorem eq43 (x y : StepD) (w : World) : (Op.equalIn 10000 43 (.agg #[.bool x.byIndex, .string x.key, .int .i64 x.index]) (.agg #[.bool y.byIndex, .string y.key, .int .i64 y.index])).run Try.prog w = .ok (stepB x y) w := by
  have u3 := Try.underlying3
  have a3 := Try.isAgg3
  have z3 := Try.sizeOf3
  have u4 := Try.underlying4
  have a4 := Try.isAgg4
  have z4 := Try.sizeOf4
  have u9 := Try.underlying9
  have a9 := Try.isAgg9
  have z9 := Try.sizeOf9
  have hS : Try.prog.underlying 43 = some (.struct (Try.prog.fieldsOf 43)) := by kernel_rfl
  have hp : Try.prog.stoodInHeld 43 = false := by kernel_rfl
  rw [show (10000 : Nat) = 9999 + 1 from rfl, run_equalIn_agg w 9999 43 _ _ hS hp]
  simp only [Program.fieldsOf, Try.underlying43]
  go_simp
  unfold stepB
  by_cases h1 : x.byIndex = y.byIndex <;> by_cases h2 : x.key.toList = y.key.toList <;> by_cases h3 : x.index = y.index <;> simp [h1, h2, h3]
theorem guard43 : Program.eqGuardType Try.prog Try.prog.depth 43 = false := by kernel_rfl

/-- n Steps lie from ⟨b, o⟩ on. -/
def StepsAt (w : World) (b o n : Nat) (D : Nat → StepD) : Prop :=
  ∀ i, i < n → w.cell? ⟨b, o + i * 3, none⟩ = some (.bool (D i).byIndex) ∧ w.cell? ⟨b, o + i * 3 + 1, none⟩ = some (.string (D i).key) ∧ w.cell? ⟨b, o + i * 3 + 2, none⟩ = some (.int .i64 (D i).index)

def SelsAt (w : World) (b o n : Nat) (D : Nat → SelD) : Prop :=
  ∀ i, i < n → w.cell? ⟨b, o + i * 4, none⟩ = some (.bool (D i).each) ∧ w.cell? ⟨b, o + i * 4 + 1, none⟩ = some (.bool (D i).at_.byIndex) ∧ w.cell? ⟨b, o + i * 4 + 2, none⟩ = some (.string (D i).at_.key) ∧ w.cell? ⟨b, o + i * 4 + 3, none⟩ = some (.int .i64 (D i).at_.index)

def okAt (l : Nat → SelD) (p : Nat → StepD) (i : Nat) : Bool := (l i).each || stepB (l i).at_ (p i)
def needsTo (l : Nat → SelD) (p : Nat → StepD) : Nat → Bool
  | 0 => true
  | k + 1 => needsTo l p k && okAt l p k

theorem needsTo_false (l : Nat → SelD) (p : Nat → StepD) (k : Nat) (hk : okAt l p k = false) : ∀ m, k < m → needsTo l p m = false
  | 0, h => by omega
  | m + 1, h => by
    by_cases e : k = m
    · subst e; simp [needsTo, hk]
    · simp [needsTo, needsTo_false l p k hk m (by omega)]

theorem needsTo_succ (l : Nat → SelD) (p : Nat → StepD) (k : Nat) (h : needsTo l p k = true) (hk : okAt l p k = true) : needsTo l p (k + 1) = true := by simp [needsTo, h, hk]

set_option maxHeartbeats 400000 in
theorem needs6_l (w : World) (b1 o1 n1 c1 b2 o2 n2 c2 : Nat) (l : Nat → SelD) (p : Nat → StepD) (h1 : n1 ≤ maxLen) (h2 : n2 ≤ maxLen)
    (hl : SelsAt w b1 o1 n1 l) (hp : StepsAt w b2 o2 n2 p) (hle : n1 ≤ n2) :
    Calls Try.prog 6 #[.slice (some ⟨b1, o1, none⟩) n1 c1, .slice (some ⟨b2, o2, none⟩) n2 c2] w fun e w' => e = .returned (.bool (needsTo l p n1)) ∧ ∃ m, w' = w.drewN m := by
  unfold maxLen at h1 h2
  have HL := Lib.hid hl
  have HP := Lib.hid hp
  clear hl hp
  go_enter Try.func6, Try.ntmps6
  go_wp2_with fail
  go_loopw [11] (fun i wr => ∃ k : Nat, k ≤ n1 ∧ i = .int .i64 k ∧ needsTo l p k = true ∧ ∃ m, wr = w.drewN m) (fun i _ => n1 - (intOf i).toNat)
  case atStart => exact ⟨0, by omega, rfl, rfl, 0, rfl⟩
  case round =>
    obtain ⟨k, hk, rfl, hn, m, rfl⟩ := hrel
    by_cases hlt : k < n1
    · obtain ⟨a1, a2, a3, a4⟩ := HL.out k (by omega)
      obtain ⟨q1, q2, q3⟩ := HP.out k (by omega)
      have hlt2 : k < n2 := by omega
      have E43 := eq43 (l k).at_ (p k)
      have G43 := guard43
      cases he : (l k).each
      · rw [he] at a1
        have HN := Lib.hid hn
        have HE := Lib.hid he
        clear hn he
        go_wp2_with fail
        go_quiet (fail)
        go_wp2_with fail
        · have hb : (!stepB (l k).at_ (p k)) = true := by assumption
          go_ret
          exact ⟨ret_bool (needsTo_false l p k (by simp [okAt, HE.out]; simpa using hb) _ hlt).symm, _, World.drewN_drewN _ _ _⟩
        · have hb : (!stepB (l k).at_ (p k)) = false := by assumption
          go_roundw
          case rel => exact ⟨k + 1, by omega, by go_num, needsTo_succ l p k HN.out (by simp [okAt]; right; simpa using hb), _, rfl⟩
          case measure => simp [intOf]; omega
      · rw [he] at a1
        have HN := Lib.hid hn
        have HE := Lib.hid he
        clear hn he
        go_wp2_with fail
        go_quiet (fail)
        go_wp2_with fail
        go_roundw
        case rel => exact ⟨k + 1, by omega, by go_num, needsTo_succ l p k HN.out (by simp [okAt, HE.out]), _, rfl⟩
        case measure => simp [intOf]; omega
    · obtain rfl : k = n1 := by omega
      have HN := Lib.hid hn
      clear hn
      go_wp2_with fail
      go_ret
      exact ⟨ret_bool HN.out.symm, _, rfl⟩

set_option maxHeartbeats 400000 in
theorem needs6_r (w : World) (b1 o1 n1 c1 b2 o2 n2 c2 : Nat) (l : Nat → SelD) (p : Nat → StepD) (h1 : n1 ≤ maxLen) (h2 : n2 ≤ maxLen)
    (hl : SelsAt w b1 o1 n1 l) (hp : StepsAt w b2 o2 n2 p) (hle : n2 < n1) :
    Calls Try.prog 6 #[.slice (some ⟨b1, o1, none⟩) n1 c1, .slice (some ⟨b2, o2, none⟩) n2 c2] w fun e w' => e = .returned (.bool (needsTo l p n2)) ∧ ∃ m, w' = w.drewN m := by
  unfold maxLen at h1 h2
  have HL := Lib.hid hl
  have HP := Lib.hid hp
  clear hl hp
  go_enter Try.func6, Try.ntmps6
  go_wp2_with fail
  go_loopw [11] (fun i wr => ∃ k : Nat, k ≤ n2 ∧ i = .int .i64 k ∧ needsTo l p k = true ∧ ∃ m, wr = w.drewN m) (fun i _ => n2 - (intOf i).toNat)
  case atStart => exact ⟨0, by omega, rfl, rfl, 0, rfl⟩
  case round =>
    obtain ⟨k, hk, rfl, hn, m, rfl⟩ := hrel
    by_cases hlt : k < n2
    · obtain ⟨a1, a2, a3, a4⟩ := HL.out k (by omega)
      obtain ⟨q1, q2, q3⟩ := HP.out k (by omega)
      have hlt2 : k < n1 := by omega
      have E43 := eq43 (l k).at_ (p k)
      have G43 := guard43
      cases he : (l k).each
      · rw [he] at a1
        have HN := Lib.hid hn
        have HE := Lib.hid he
        clear hn he
        go_wp2_with fail
        go_quiet (fail)
        go_wp2_with fail
        · have hb : (!stepB (l k).at_ (p k)) = true := by assumption
          go_ret
          exact ⟨ret_bool (needsTo_false l p k (by simp [okAt, HE.out]; simpa using hb) _ hlt).symm, _, World.drewN_drewN _ _ _⟩
        · have hb : (!stepB (l k).at_ (p k)) = false := by assumption
          go_roundw
          case rel => exact ⟨k + 1, by omega, by go_num, needsTo_succ l p k HN.out (by simp [okAt]; right; simpa using hb), _, rfl⟩
          case measure => simp [intOf]; omega
      · rw [he] at a1
        have HN := Lib.hid hn
        have HE := Lib.hid he
        clear hn he
        go_wp2_with fail
        go_quiet (fail)
        go_wp2_with fail
        go_roundw
        case rel => exact ⟨k + 1, by omega, by go_num, needsTo_succ l p k HN.out (by simp [okAt, HE.out]), _, rfl⟩
        case measure => simp [intOf]; omega
    · obtain rfl : k = n2 := by omega
      have HN := Lib.hid hn
      clear hn
      go_wp2_with fail
      go_ret
      exact ⟨ret_bool HN.out.symm, _, rfl⟩

set_option maxHeartbeats 400000 in
theorem needs7_l (w : World) (b1 o1 n1 c1 b2 o2 n2 c2 : Nat) (l : Nat → SelD) (p : Nat → StepD) (h1 : n1 ≤ maxLen) (h2 : n2 ≤ maxLen)
    (hl : SelsAt w b1 o1 n1 l) (hp : StepsAt w b2 o2 n2 p) (hle : n1 ≤ n2) :
    Calls Try.prog 7 #[.slice (some ⟨b1, o1, none⟩) n1 c1, .slice (some ⟨b2, o2, none⟩) n2 c2] w fun e w' => e = .returned (.bool (needsTo l p n1)) ∧ ∃ m, w' = w.drewN m := by
  unfold maxLen at h1 h2
  have HL := Lib.hid hl
  have HP := Lib.hid hp
  clear hl hp
  go_enter Try.func7, Try.ntmps7
  go_wp2_with fail
  go_loopw [5] (fun i wr => ∃ k : Nat, k ≤ n1 ∧ i = .int .i64 k ∧ needsTo l p k = true ∧ ∃ m, wr = w.drewN m) (fun i _ => n1 - (intOf i).toNat)
  case atStart => exact ⟨0, by omega, rfl, rfl, 0, rfl⟩
  case round =>
    obtain ⟨k, hk, rfl, hn, m, rfl⟩ := hrel
    by_cases hlt : k < n1
    · obtain ⟨a1, a2, a3, a4⟩ := HL.out k (by omega)
      obtain ⟨q1, q2, q3⟩ := HP.out k (by omega)
      have hlt2 : k < n2 := by omega
      have E43 := eq43 (l k).at_ (p k)
      have G43 := guard43
      cases he : (l k).each
      · rw [he] at a1
        have HN := Lib.hid hn
        have HE := Lib.hid he
        clear hn he
        go_wp2_with fail
        go_quiet (fail)
        go_wp2_with fail
        · have hb : (!stepB (l k).at_ (p k)) = true := by assumption
          go_ret
          exact ⟨ret_bool (needsTo_false l p k (by simp [okAt, HE.out]; simpa using hb) _ hlt).symm, _, World.drewN_drewN _ _ _⟩
        · have hb : (!stepB (l k).at_ (p k)) = false := by assumption
          go_roundw
          case rel => exact ⟨k + 1, by omega, by go_num, needsTo_succ l p k HN.out (by simp [okAt]; right; simpa using hb), _, rfl⟩
          case measure => simp [intOf]; omega
      · rw [he] at a1
        have HN := Lib.hid hn
        have HE := Lib.hid he
        clear hn he
        go_wp2_with fail
        go_quiet (fail)
        go_wp2_with fail
        go_roundw
        case rel => exact ⟨k + 1, by omega, by go_num, needsTo_succ l p k HN.out (by simp [okAt, HE.out]), _, rfl⟩
        case measure => simp [intOf]; omega
    · obtain rfl : k = n1 := by omega
      have HN := Lib.hid hn
      clear hn
      go_wp2_with fail
      go_ret
      exact ⟨ret_bool HN.out.symm, _, rfl⟩

set_option maxHeartbeats 400000 in
theorem needs7_r (w : World) (b1 o1 n1 c1 b2 o2 n2 c2 : Nat) (l : Nat → SelD) (p : Nat → StepD) (h1 : n1 ≤ maxLen) (h2 : n2 ≤ maxLen)
    (hl : SelsAt w b1 o1 n1 l) (hp : StepsAt w b2 o2 n2 p) (hle : n2 < n1) :
    Calls Try.prog 7 #[.slice (some ⟨b1, o1, none⟩) n1 c1, .slice (some ⟨b2, o2, none⟩) n2 c2] w fun e w' => e = .returned (.bool (needsTo l p n2)) ∧ ∃ m, w' = w.drewN m := by
  unfold maxLen at h1 h2
  have HL := Lib.hid hl
  have HP := Lib.hid hp
  clear hl hp
  go_enter Try.func7, Try.ntmps7
  go_wp2_with fail
  go_loopw [5] (fun i wr => ∃ k : Nat, k ≤ n2 ∧ i = .int .i64 k ∧ needsTo l p k = true ∧ ∃ m, wr = w.drewN m) (fun i _ => n2 - (intOf i).toNat)
  case atStart => exact ⟨0, by omega, rfl, rfl, 0, rfl⟩
  case round =>
    obtain ⟨k, hk, rfl, hn, m, rfl⟩ := hrel
    by_cases hlt : k < n2
    · obtain ⟨a1, a2, a3, a4⟩ := HL.out k (by omega)
      obtain ⟨q1, q2, q3⟩ := HP.out k (by omega)
      have hlt2 : k < n1 := by omega
      have E43 := eq43 (l k).at_ (p k)
      have G43 := guard43
      cases he : (l k).each
      · rw [he] at a1
        have HN := Lib.hid hn
        have HE := Lib.hid he
        clear hn he
        go_wp2_with fail
        go_quiet (fail)
        go_wp2_with fail
        · have hb : (!stepB (l k).at_ (p k)) = true := by assumption
          go_ret
          exact ⟨ret_bool (needsTo_false l p k (by simp [okAt, HE.out]; simpa using hb) _ hlt).symm, _, World.drewN_drewN _ _ _⟩
        · have hb : (!stepB (l k).at_ (p k)) = false := by assumption
          go_roundw
          case rel => exact ⟨k + 1, by omega, by go_num, needsTo_succ l p k HN.out (by simp [okAt]; right; simpa using hb), _, rfl⟩
          case measure => simp [intOf]; omega
      · rw [he] at a1
        have HN := Lib.hid hn
        have HE := Lib.hid he
        clear hn he
        go_wp2_with fail
        go_quiet (fail)
        go_wp2_with fail
        go_roundw
        case rel => exact ⟨k + 1, by omega, by go_num, needsTo_succ l p k HN.out (by simp [okAt, HE.out]), _, rfl⟩
        case measure => simp [intOf]; omega
    · obtain rfl : k = n2 := by omega
      have HN := Lib.hid hn
      clear hn
      go_wp2_with fail
      go_ret
      exact ⟨ret_bool HN.out.symm, _, rfl⟩

end Go.Proofs.Ytbpdbmjfnbpihaa
