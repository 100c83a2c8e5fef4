/- The reference's Valid of paths (datakitref08): it returns, and writes nothing that was there. -/
import Derived.Test.YtbpdbmjfnbpihaaC
import Derived.StillTailTactics
namespace Go.Proofs.Ytbpdbmjfnbpihaa
open Go.RowKit

def SomeBool (w : World) (e : Ending) (w' : World) : Prop := ∃ (b : Bool), e = .returned (.bool b) ∧ Below w.heap.size w w'

theorem below_drewN (w : World) (m : Nat) : Below w.heap.size w (w.drewN m) := ⟨rfl, rfl, rfl, Nat.le_refl _, fun _ _ => rfl⟩

theorem StepsAt.below {w w' : World} {b o n : Nat} {D : Nat → StepD} (h : StepsAt w b o n D) (hb : Below w.heap.size w w') (hlt : b < w.heap.size) : StepsAt w' b o n D := fun i hi => by
  obtain ⟨h1, h2, h3⟩ := h i hi
  exact ⟨(hb.cell hlt).trans h1, (hb.cell hlt).trans h2, (hb.cell hlt).trans h3⟩

set_option maxHeartbeats 1600000 in
theorem valid5 (w : World) (b o n c : Nat) (p : Nat → StepD) (hn : n ≤ maxLen) (hp : StepsAt w b o n p) (hlt : b < w.heap.size) :
    Calls Try.prog 5 #[.slice (some ⟨b, o, none⟩) n c] w (SomeBool w) := by
  unfold maxLen at hn
  have HP := Lib.hid hp
  clear hp
  by_cases h48 : 48 < n
  · go_enter Try.func5, Try.ntmps5
    go_wp2_with fail
    go_ret
    exact ⟨_, rfl, Below.refl _ _⟩
  · go_enter Try.func5, Try.ntmps5
    go_wp2_with fail
    go_simp
    go_loopw [3] (fun i wr => ∃ k : Nat, k ≤ n ∧ i = .int .i64 k ∧ Below w.heap.size w wr) (fun i _ => n - (intOf i).toNat)
    case atStart => exact ⟨0, by omega, rfl, Below.refl _ _⟩
    case round =>
      obtain ⟨k, hk, rfl, hbel⟩ := hrel
      by_cases hkn : k < n
      · obtain ⟨q1, q2, q3⟩ := HP.out.below hbel hlt k hkn
        cases hb : (p k).byIndex
        all_goals
          rw [hb] at q1
          have HB := Lib.hid hb
          clear hb
          go_wp2_with (go_at_call 12; refine (valid_any _ _ (by omega)).mono ?_; rintro e w' ⟨b', rfl, hb'⟩)
          all_goals first
            | (go_ret; exact ⟨_, rfl, hbel⟩)
            | (go_ret; exact ⟨_, rfl, hbel.trans (hb'.mono hbel.size)⟩)
            | (go_roundw
               case rel => exact ⟨k + 1, by omega, by go_num, by first | exact hbel | exact hbel.trans (hb'.mono hbel.size)⟩
               case measure => simp [intOf]; omega)
      · go_wp2_with fail
        go_ret
        exact ⟨_, rfl, hbel⟩
end Go.Proofs.Ytbpdbmjfnbpihaa
