/- Times and what a value's kind lets it have: the reference's and the program's tests compute the same. -/
import Derived.Test.YtnoddigkafldfaaDoorChkD
import Derived.Test.YtnoddigkafldfaaDoorUtfx
namespace Go.Proofs.YtnoddigkafldfaaDoor
open Go.RowKit

theorem bool_of {a b : Bool} (h : a = true ↔ b = true) : a = b := Bool.eq_iff_iff.2 h
theorem vtimeB_iff (t : TimeD) : vtimeB t = true ↔ (1 ≤ t.kind ∧ t.kind ≤ 4 ∧ 0 ≤ t.day ∧ t.day ≤ 3652058 ∧ 0 ≤ t.nano ∧ t.nano ≤ 86399999999999 ∧ -1439 ≤ t.offset ∧ t.offset ≤ 1439 ∧ (t.kind = 2 → t.day = 0) ∧ (t.kind = 1 → t.nano = 0) ∧ (t.kind ≠ 4 → t.offset = 0)) := by
  unfold vtimeB
  rw [decide_eq_true_eq]
def dateB (k : Int) : Bool := k == 1 || (k == 3 || k == 4)
def clockB (k : Int) : Bool := k == 2 || (k == 3 || k == 4)
theorem dated_ex (k : Int) (w : World) : Calls Tryd.prog 57 #[.int .i64 k] w fun e w' => e = .returned (.bool (dateB k)) ∧ w = w' := by
  have HD := Lib.hid (show dateB k = (k == 1 || (k == 3 || k == 4)) from rfl)
  by_cases h1 : k = 1 <;> by_cases h2 : k = 3 <;> by_cases h3 : k = 4
  all_goals
    have H1 := Lib.hid h1
    have H2 := Lib.hid h2
    have H3 := Lib.hid h3
    have e1 : (k == 1) = decide (k = 1) := rfl
    clear h1 h2 h3 e1
    go_enter Tryd.func57, Tryd.ntmps57
    go_wp2
    all_goals
      go_ret
      refine ⟨ret_bool (bool_of ?_), rfl⟩
      rw [HD.out]
      have := H1.out
      have := H2.out
      have := H3.out
      simp_all
theorem clocked_ex (k : Int) (w : World) : Calls Tryd.prog 58 #[.int .i64 k] w fun e w' => e = .returned (.bool (clockB k)) ∧ w = w' := by
  have HD := Lib.hid (show clockB k = (k == 2 || (k == 3 || k == 4)) from rfl)
  go_enter Tryd.func58, Tryd.ntmps58
  go_wp2
  all_goals
    go_ret
    refine ⟨ret_bool (bool_of ?_), rfl⟩
    rw [HD.out]
    simp_all
set_option maxRecDepth 100000 in
set_option maxHeartbeats 1600000 in
theorem valid05_ex (t : TimeD) (w : World) : Calls Tryd.prog 48 #[.agg #[.int .i64 t.kind, .int .i64 t.day, .int .i64 t.nano, .int .i64 t.offset]] w (BolR (vtimeB t) w) := by
  have HV := Lib.hid (vtimeB_iff t)
  have HD := Lib.hid (show dateB t.kind = (t.kind == 1 || (t.kind == 3 || t.kind == 4)) from rfl)
  have HC := Lib.hid (show clockB t.kind = (t.kind == 2 || (t.kind == 3 || t.kind == 4)) from rfl)
  go_enter Tryd.func48, Tryd.ntmps48
  go_wp2_with (first | (go_at_call 57; refine (dated_ex _ _).mono ?_; rintro e w' ⟨rfl, rfl⟩) | (go_at_call 58; refine (clocked_ex _ _).mono ?_; rintro e w' ⟨rfl, rfl⟩))
  all_goals
    go_ret
    refine ⟨ret_bool (bool_of ?_), Below.box _ _⟩
    have hv := HV.out
    have hd := HD.out
    have hc := HC.out
    clear HV HD HC
    grind
set_option maxRecDepth 100000 in
set_option maxHeartbeats 1600000 in
theorem momentValid (t : TimeD) (w : World) : Calls Tryd.prog 32 #[.agg #[.int .i64 t.kind, .int .i64 t.day, .int .i64 t.nano, .int .i64 t.offset]] w (BolR (vtimeB t) w) := by
  have HV := Lib.hid (vtimeB_iff t)
  go_enter Tryd.func32, Tryd.ntmps32
  go_wp2
  all_goals
    go_ret
    refine ⟨ret_bool (bool_of ?_), Below.box _ _⟩
    have hv := HV.out
    clear HV
    grind
end Go.Proofs.YtnoddigkafldfaaDoor
