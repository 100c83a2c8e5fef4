/- The small functions over instructions, of the program (qcode) and of the reference (datakitref41): what they give. -/
import Derived.Test.YtnoddigkafldfaaDoorIns41m
namespace Go.Proofs.YtnoddigkafldfaaDoor
open Go.RowKit

def Two41 (a b : Int) (w : World) (e : Ending) (w' : World) : Prop := e = .returned (.tuple #[.int .i64 a, .int .i64 b]) ∧ w' = w
def Boo41 (b : Bool) (w : World) (e : Ending) (w' : World) : Prop := e = .returned (.bool b) ∧ w' = w
theorem ops30 {op : Int} (h : ¬ (op < 1 ∨ 30 < op)) : op = 1 ∨ op = 2 ∨ op = 3 ∨ op = 4 ∨ op = 5 ∨ op = 6 ∨ op = 7 ∨ op = 8 ∨ op = 9 ∨ op = 10 ∨ op = 11 ∨ op = 12 ∨ op = 13 ∨ op = 14 ∨ op = 15 ∨ op = 16 ∨ op = 17 ∨ op = 18 ∨ op = 19 ∨ op = 20 ∨ op = 21 ∨ op = 22 ∨ op = 23 ∨ op = 24 ∨ op = 25 ∨ op = 26 ∨ op = 27 ∨ op = 28 ∨ op = 29 ∨ op = 30 := by omega
set_option maxRecDepth 100000 in
set_option maxHeartbeats 3200000 in
theorem uses_prog (op : Int) (w : World) (h : ¬ (op < 1 ∨ 30 < op)) : Calls Tryd.prog 11 #[.int .i64 op] w (Two41 (useA op) (useB op) w) := by
  rcases ops30 h with rfl | rfl | rfl | rfl | rfl | rfl | rfl | rfl | rfl | rfl | rfl | rfl | rfl | rfl | rfl | rfl | rfl | rfl | rfl | rfl | rfl | rfl | rfl | rfl | rfl | rfl | rfl | rfl | rfl | rfl
  all_goals
    clear h
    go_enter Tryd.func11, Tryd.ntmps11
    go_wp2
    go_ret2
    exact ⟨rfl, rfl⟩
set_option maxRecDepth 100000 in
set_option maxHeartbeats 3200000 in
theorem named_prog (op : Int) (w : World) (h : ¬ (op < 1 ∨ 30 < op)) : Calls Tryd.prog 12 #[.int .i64 op] w (Boo41 (namO op) w) := by
  rcases ops30 h with rfl | rfl | rfl | rfl | rfl | rfl | rfl | rfl | rfl | rfl | rfl | rfl | rfl | rfl | rfl | rfl | rfl | rfl | rfl | rfl | rfl | rfl | rfl | rfl | rfl | rfl | rfl | rfl | rfl | rfl
  all_goals
    clear h
    go_enter Tryd.func12, Tryd.ntmps12
    go_wp2
    go_ret
    exact ⟨rfl, rfl⟩
def refA (op : Int) : Int := if op = 13 then 5 else useA op
set_option maxRecDepth 100000 in
set_option maxHeartbeats 3200000 in
theorem fields_ref (op : Int) (w : World) (h : ¬ (op < 1 ∨ 30 < op)) : Calls Tryd.prog 17 #[.int .i64 op] w (fun e w' => e = .returned (.tuple #[.int .i64 (refA op), .int .i64 (useB op), .bool (namO op)]) ∧ w' = w) := by
  rcases ops30 h with rfl | rfl | rfl | rfl | rfl | rfl | rfl | rfl | rfl | rfl | rfl | rfl | rfl | rfl | rfl | rfl | rfl | rfl | rfl | rfl | rfl | rfl | rfl | rfl | rfl | rfl | rfl | rfl | rfl | rfl
  all_goals
    clear h
    go_enter Tryd.func17, Tryd.ntmps17
    go_wp2
    go_ret3
    exact ⟨rfl, rfl⟩
theorem useA_kinds (op : Int) : useA op = 0 ∨ useA op = 1 ∨ useA op = 2 ∨ useA op = 3 ∨ useA op = 4 := by
  unfold useA
  (repeat' split) <;> simp
theorem useB_kinds (op : Int) : useB op = 0 ∨ useB op = 1 := by
  unfold useB
  split <;> simp
set_option maxHeartbeats 3200000 in
theorem within_prog (k x : Int) (n : Nat) (w : World) (hk : k = 0 ∨ k = 1 ∨ k = 2 ∨ k = 3 ∨ k = 4) : Calls Tryd.prog 14 #[.int .i64 k, .int .i64 x, .int .i64 n] w (Boo41 (withB k x n) w) := by
  have h0 : 0 ≤ x ∨ x < 0 := by omega
  have h1 : x ≤ 16384 ∨ 16384 < x := by omega
  have h2 : x < n ∨ (n : Int) ≤ x := by omega
  have h3 : x = -1 ∨ x < -1 ∨ -1 < x := by omega
  have h4 : x < 1 ∨ 32 < x ∨ (1 ≤ x ∧ x ≤ 32) := by omega
  rcases hk with rfl | rfl | rfl | rfl | rfl
  all_goals
    go_enter Tryd.func14, Tryd.ntmps14
    go_wp2
    all_goals
      go_ret
      refine ⟨ret_bool ?_, rfl⟩
      simp only [withB]
      grind
end Go.Proofs.YtnoddigkafldfaaDoor
