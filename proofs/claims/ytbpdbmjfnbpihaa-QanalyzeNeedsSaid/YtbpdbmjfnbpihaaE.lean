/- The law QanalyzeNeeds: Needs reports whether any selection can reach into the value at any valid path. -/
import Derived.Test.YtbpdbmjfnbpihaaD
namespace Go.Proofs.Ytbpdbmjfnbpihaa
open Go.RowKit

theorem needs6_z (w : World) (a1 a2 : Option Addr) (n1 c1 n2 c2 : Nat) (h1 : n1 ≤ maxLen) (h2 : n2 ≤ maxLen) (hz : n1 ≤ 0 ∨ n2 ≤ 0) :
    Calls Try.prog 6 #[.slice a1 n1 c1, .slice a2 n2 c2] w fun e w' => e = .returned (.bool true) ∧ ∃ m, w' = w.drewN m := by
  unfold maxLen at h1 h2
  by_cases hle : n1 ≤ n2
  all_goals
    have hz' : min n1 n2 ≤ 0 := by omega
    go_enter Try.func6, Try.ntmps6
    go_wp2_with fail
    go_loopw [11] (fun i wr => i = .int .i64 0 ∧ wr = w) (fun _ _ => 0)
    case atStart => exact ⟨rfl, rfl⟩
    case round =>
      obtain ⟨rfl, rfl⟩ := hrel
      have hz1 : n1 ≤ 0 ∨ n2 ≤ 0 := hz
      rcases hz1 with hz1 | hz1
      all_goals
        go_wp2_with fail
        all_goals first
          | (exfalso; omega)
          | (go_ret; exact ⟨rfl, 0, rfl⟩)

theorem needs7_z (w : World) (a1 a2 : Option Addr) (n1 c1 n2 c2 : Nat) (h1 : n1 ≤ maxLen) (h2 : n2 ≤ maxLen) (hz : n1 ≤ 0 ∨ n2 ≤ 0) :
    Calls Try.prog 7 #[.slice a1 n1 c1, .slice a2 n2 c2] w fun e w' => e = .returned (.bool true) ∧ ∃ m, w' = w.drewN m := by
  unfold maxLen at h1 h2
  rcases hz with hz | hz
  all_goals
    go_enter Try.func7, Try.ntmps7
    go_wp2_with fail
    go_loopw [5] (fun i wr => i = .int .i64 0 ∧ wr = w) (fun _ _ => 0)
    case atStart => exact ⟨rfl, rfl⟩
    case round =>
      obtain ⟨rfl, rfl⟩ := hrel
      go_wp2_with fail
      all_goals first
        | (exfalso; omega)
        | (go_ret; exact ⟨rfl, 0, rfl⟩)

theorem valid5_z (w : World) (a : Option Addr) (c : Nat) : Calls Try.prog 5 #[.slice a 0 c] w (SomeBool w) := by
  go_enter Try.func5, Try.ntmps5
  go_wp2_with fail
  go_loopw [3] (fun i wr => i = .int .i64 0 ∧ wr = w) (fun _ _ => 0)
  case atStart => exact ⟨rfl, rfl⟩
  case round =>
    obtain ⟨rfl, rfl⟩ := hrel
    go_wp2_with fail
    go_ret
    exact ⟨_, rfl, Below.refl _ _⟩
theorem SelsAt.below {w w' : World} {b o n : Nat} {D : Nat → SelD} (h : SelsAt w b o n D) (hb : Below w.heap.size w w') (hlt : b < w.heap.size) : SelsAt w' b o n D := fun i hi => by
  obtain ⟨h1, h2, h3, h4⟩ := h i hi
  exact ⟨(hb.cell hlt).trans h1, (hb.cell hlt).trans h2, (hb.cell hlt).trans h3, (hb.cell hlt).trans h4⟩

/-- A slice of Steps that came in: nil, or so many lie there. -/
def IsSteps (w : World) (a : Option Addr) (n : Nat) (D : Nat → StepD) : Prop := n ≤ maxLen ∧ (n = 0 ∨ ∃ b o, a = some ⟨b, o, none⟩ ∧ b < w.heap.size ∧ StepsAt w b o n D)
def IsSels (w : World) (a : Option Addr) (n : Nat) (D : Nat → SelD) : Prop := n ≤ maxLen ∧ (n = 0 ∨ ∃ b o, a = some ⟨b, o, none⟩ ∧ b < w.heap.size ∧ SelsAt w b o n D)

theorem IsSteps.below {w w' : World} {a : Option Addr} {n : Nat} {D : Nat → StepD} (h : IsSteps w a n D) (hb : Below w.heap.size w w') : IsSteps w' a n D := by
  obtain ⟨h0, h⟩ := h
  refine ⟨h0, h.imp id ?_⟩
  rintro ⟨b, o, h1, h2, h3⟩
  exact ⟨b, o, h1, Nat.lt_of_lt_of_le h2 hb.size, h3.below hb h2⟩
theorem IsSels.below {w w' : World} {a : Option Addr} {n : Nat} {D : Nat → SelD} (h : IsSels w a n D) (hb : Below w.heap.size w w') : IsSels w' a n D := by
  obtain ⟨h0, h⟩ := h
  refine ⟨h0, h.imp id ?_⟩
  rintro ⟨b, o, h1, h2, h3⟩
  exact ⟨b, o, h1, Nat.lt_of_lt_of_le h2 hb.size, h3.below hb h2⟩

theorem valid5_any (w : World) (a : Option Addr) (n c : Nat) (p : Nat → StepD) (hp : IsSteps w a n p) : Calls Try.prog 5 #[.slice a n c] w (SomeBool w) := by
  obtain ⟨h0, rfl | ⟨b, o, rfl, hb, hs⟩⟩ := hp
  · exact valid5_z w a c
  · exact valid5 w b o n c p h0 hs hb

theorem needs6_any (w : World) (a1 a2 : Option Addr) (n1 c1 n2 c2 : Nat) (l : Nat → SelD) (p : Nat → StepD) (hl : IsSels w a1 n1 l) (hp : IsSteps w a2 n2 p) :
    Calls Try.prog 6 #[.slice a1 n1 c1, .slice a2 n2 c2] w fun e w' => e = .returned (.bool (needsTo l p (min n1 n2))) ∧ ∃ m, w' = w.drewN m := by
  obtain ⟨h1, hl⟩ := hl
  obtain ⟨h2, hp⟩ := hp
  by_cases hz : n1 ≤ 0 ∨ n2 ≤ 0
  · have e : min n1 n2 = 0 := by omega
    rw [e]
    exact needs6_z w a1 a2 n1 c1 n2 c2 h1 h2 hz
  · obtain rfl | ⟨b1, o1, rfl, k1, l1⟩ := hl
    · omega
    obtain rfl | ⟨b2, o2, rfl, k2, l2⟩ := hp
    · omega
    by_cases hle : n1 ≤ n2
    · rw [Nat.min_eq_left hle]
      exact needs6_l w b1 o1 n1 c1 b2 o2 n2 c2 l p h1 h2 l1 l2 hle
    · rw [Nat.min_eq_right (by omega)]
      exact needs6_r w b1 o1 n1 c1 b2 o2 n2 c2 l p h1 h2 l1 l2 (by omega)

theorem needs7_any (w : World) (a1 a2 : Option Addr) (n1 c1 n2 c2 : Nat) (l : Nat → SelD) (p : Nat → StepD) (hl : IsSels w a1 n1 l) (hp : IsSteps w a2 n2 p) :
    Calls Try.prog 7 #[.slice a1 n1 c1, .slice a2 n2 c2] w fun e w' => e = .returned (.bool (needsTo l p (min n1 n2))) ∧ ∃ m, w' = w.drewN m := by
  obtain ⟨h1, hl⟩ := hl
  obtain ⟨h2, hp⟩ := hp
  by_cases hz : n1 ≤ 0 ∨ n2 ≤ 0
  · have e : min n1 n2 = 0 := by omega
    rw [e]
    exact needs7_z w a1 a2 n1 c1 n2 c2 h1 h2 hz
  · obtain rfl | ⟨b1, o1, rfl, k1, l1⟩ := hl
    · omega
    obtain rfl | ⟨b2, o2, rfl, k2, l2⟩ := hp
    · omega
    by_cases hle : n1 ≤ n2
    · rw [Nat.min_eq_left hle]
      exact needs7_l w b1 o1 n1 c1 b2 o2 n2 c2 l p h1 h2 l1 l2 hle
    · rw [Nat.min_eq_right (by omega)]
      exact needs7_r w b1 o1 n1 c1 b2 o2 n2 c2 l p h1 h2 l1 l2 (by omega)

theorem law3 (w : World) (a1 a2 : Option Addr) (n1 c1 n2 c2 : Nat) (l : Nat → SelD) (p : Nat → StepD) (hl : IsSels w a1 n1 l) (hp : IsSteps w a2 n2 p) :
    Calls Try.prog 3 #[.slice a1 n1 c1, .slice a2 n2 c2] w fun e w' => e = .returned (.bool true) ∧ Below w.heap.size w w' := by
  have HL := Lib.hid hl
  have HP := Lib.hid hp
  clear hl hp
  go_enter Try.func3, Try.ntmps3
  go_wp2_with fail
  refine (valid5_any _ _ _ _ p HP.out).mono ?_
  rintro e w1 ⟨b, rfl, hb⟩
  cases b
  · go_wp2_with fail
    go_ret
    exact ⟨rfl, hb⟩
  · have HB := Lib.hid hb
    clear hb
    go_wp2_with fail
    refine (needs6_any _ _ _ _ _ _ _ l p (HL.out.below HB.out) (HP.out.below HB.out)).mono ?_
    rintro e w2 ⟨rfl, m, rfl⟩
    go_wp2_with fail
    refine (needs7_any _ _ _ _ _ _ _ l p ((HL.out.below HB.out).below (below_drewN _ _)) ((HP.out.below HB.out).below (below_drewN _ _))).mono ?_
    rintro e w2 ⟨rfl, m', rfl⟩
    go_wp2_with fail
    go_ret
    exact ⟨by simp, HB.out.trans ((below_drewN _ _).mono HB.out.size)⟩
end Go.Proofs.Ytbpdbmjfnbpihaa
