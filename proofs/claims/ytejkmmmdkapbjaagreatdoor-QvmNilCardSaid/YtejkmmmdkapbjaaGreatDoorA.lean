/- Two zero values are the same (datakitref07.Same). -/
import Derived.Test.YtejkmmmdkapbjaaGreatDoorProg
import Derived.WalkKit
import Derived.WalkSpells
import Derived.WalkLawsBesides
import Derived.LoopTactic
import Derived.BigQuiet
import Derived.Deep.QuietTactic
import Derived.Lib.Hide
import Derived.Laws.BytesArg
import Derived.OwnWalk
import Derived.Below
namespace Go.Proofs.YtejkmmmdkapbjaaGreatDoor
open Go.RowKit

abbrev zeroV : Value := .agg #[.int .i64 0, .bool false, .bool false, .string ⟨#[]⟩, .int .i64 0, .int .i64 0, .int .i64 0, .int .i64 0, .int .i64 0, .string ⟨#[]⟩, .slice none 0 0, .slice none 0 0, .slice none 0 0]
theorem eqDEC0 (w : World) : (Op.equalIn 10000 24 (.agg #[.bool false, .string ⟨#[]⟩, .int .i64 0]) (.agg #[.bool false, .string ⟨#[]⟩, .int .i64 0])).run Tryz.prog w = .ok true w := by
  have u3 := Tryz.underlying3
  have a3 := Tryz.isAgg3
  have z3 := Tryz.sizeOf3
  have u4 := Tryz.underlying4
  have a4 := Tryz.isAgg4
  have z4 := Tryz.sizeOf4
  have u9 := Tryz.underlying9
  have a9 := Tryz.isAgg9
  have z9 := Tryz.sizeOf9
  have hS : Tryz.prog.underlying 24 = some (.struct (Tryz.prog.fieldsOf 24)) := by kernel_rfl
  have hp : Tryz.prog.stoodInHeld 24 = false := by kernel_rfl
  rw [show (10000 : Nat) = 9999 + 1 from rfl, run_equalIn_agg w 9999 24 _ _ hS hp]
  simp only [Program.fieldsOf, Tryz.underlying24]
  go_simp
theorem eqTIME0 (w : World) : (Op.equalIn 10000 26 (.agg #[.int .i64 0, .int .i64 0, .int .i64 0, .int .i64 0]) (.agg #[.int .i64 0, .int .i64 0, .int .i64 0, .int .i64 0])).run Tryz.prog w = .ok true w := by
  have u3 := Tryz.underlying3
  have a3 := Tryz.isAgg3
  have z3 := Tryz.sizeOf3
  have hS : Tryz.prog.underlying 26 = some (.struct (Tryz.prog.fieldsOf 26)) := by kernel_rfl
  have hp : Tryz.prog.stoodInHeld 26 = false := by kernel_rfl
  rw [show (10000 : Nat) = 9999 + 1 from rfl, run_equalIn_agg w 9999 26 _ _ hS hp]
  simp only [Program.fieldsOf, Tryz.underlying26]
  go_simp
theorem belowBox (w : World) (o : Obj) : Below w.heap.size w (w.alloc o) := (Below.refl _ _).alloc (Nat.le_refl _) _
theorem guardDEC : Program.eqGuardType Tryz.prog Tryz.prog.depth 24 = false := by kernel_rfl
theorem guardTIME : Program.eqGuardType Tryz.prog Tryz.prog.depth 26 = false := by kernel_rfl

set_option maxRecDepth 100000 in
set_option maxHeartbeats 3200000 in
theorem same0 (w : World) : Calls Tryz.prog 5 #[zeroV, zeroV] w fun e w' => e = .returned (.bool true) ∧ Below w.heap.size w w' := by
  have E1 := eqDEC0
  have E2 := eqTIME0
  have G1 := guardDEC
  have G2 := guardTIME
  go_enter Tryz.func5, Tryz.ntmps5
  have CV : ∀ w : World, (convert 27 9 (.slice none 0 0)).run Tryz.prog w = .ok (.string ⟨#[]⟩) w := fun w => run_convert_bytes_nil (w := w) 27 5 Tryz.underlying27 Tryz.underlying5 0 0 9 Tryz.underlying9
  go_wp2_with fail
  go_loop [5] (fun i => i = .int .i64 0) (fun _ => 0)
  case atStart => rfl
  case round =>
    subst hrel
    go_wp2_with fail
    go_loop [6] (fun i => i = .int .i64 0) (fun _ => 0)
    case atStart => rfl
    case round =>
      subst hrel
      go_wp2_with fail
      go_ret
      exact ⟨rfl, (belowBox w _).trans ((belowBox _ _).mono (by simp))⟩
end Go.Proofs.YtejkmmmdkapbjaaGreatDoor
