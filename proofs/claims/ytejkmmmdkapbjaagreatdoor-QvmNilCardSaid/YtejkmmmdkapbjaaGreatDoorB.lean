/- What a nil machine answers (qvm), and the law. -/
import Derived.Test.YtejkmmmdkapbjaaGreatDoorA
import Derived.Laws.Rows
namespace Go.Proofs.YtejkmmmdkapbjaaGreatDoor
open Go.RowKit

theorem belowThen {a b c : World} (h : Below a.heap.size a b) (k : Below b.heap.size b c) : Below a.heap.size a c := h.trans (k.mono h.size)
theorem results_cell_row3 {P : Program} {fn : Func} {p u v : Tmp} {ty : TypeId} (h : fn.results = #[.cell p ty, .tmp u, .tmp v]) (tmps : Array Value) (w : World) (g : Nat) (t : TypeId) (cs : Array Value) (fr : Nat × Nat) (d : TypeDesc)
    (hp : tmps.getD p undef = .pointer (some ⟨g, 0, none⟩)) (hg : w.heap[g]? = some (.cells cs t fr))
    (hu : P.underlying ty = some d) (hd : (match d with | .struct _ | .array _ _ => true | _ => false) = true) (hi : (P.info? ty).map (·.size) = some cs.size) :
    (results fn tmps).run P w = .ok (.tuple #[.agg cs, tmps.getD u undef, tmps.getD v undef]) w := by
  have hp' : tmps[p]?.getD undef = .pointer (some ⟨g, 0, none⟩) := by simpa using hp
  simp [results, h, hp', asAddr, run_loadVar_row w g t ty cs fr d hg hu hd hi]
theorem sizeV : (Tryz.prog.info? 31).map (·.size) = some 13 := by kernel_rfl
set_option maxRecDepth 100000 in
theorem next0 (fuel : Int) (w : World) : Calls Tryz.prog 4 #[.pointer none, .int .i64 fuel] w fun e w' => e = .returned (.tuple #[zeroV, .bool false, .int .i64 29]) ∧ Below w.heap.size w w' := by
  go_enter Tryz.func4, Tryz.ntmps4
  go_wp2_with fail
  (try simp only [Exit.inBlock, Exit.then])
  refine bodyPost_ret (results_cell_row3 rfl _ _ w.heap.size 31 _ (0, 0) _ rfl (heap_alloc_new w _) Tryz.underlying31 rfl sizeV) rfl ?_
  exact ⟨rfl, belowBox w _⟩
theorem steps0 (w : World) : Calls Tryz.prog 6 #[.pointer none] w fun e w' => e = .returned (.int .i64 0) ∧ w = w' := by
  go_enter Tryz.func6, Tryz.ntmps6
  go_wp2_with fail
  go_ret
  exact ⟨rfl, rfl⟩
theorem forks0 (w : World) : Calls Tryz.prog 7 #[.pointer none] w fun e w' => e = .returned (.int .i64 0) ∧ w = w' := by
  go_enter Tryz.func7, Tryz.ntmps7
  go_wp2_with fail
  go_ret
  exact ⟨rfl, rfl⟩
theorem raised0 (w : World) : Calls Tryz.prog 8 #[.pointer none] w fun e w' => e = .returned zeroV ∧ Below w.heap.size w w' := by
  go_enter Tryz.func8, Tryz.ntmps8
  go_wp2_with fail
  (try simp only [Exit.inBlock, Exit.then])
  refine bodyPost_ret (results_cell_row rfl _ _ w.heap.size 31 _ (0, 0) _ rfl (heap_alloc_new w _) Tryz.underlying31 rfl sizeV) rfl ?_
  exact ⟨rfl, belowBox w _⟩
theorem law (fuel : Int) (w : World) : Calls Tryz.prog 3 #[.int .i64 fuel] w fun e w' => e = .returned (.bool true) ∧ Below w.heap.size w w' := by
  go_enter Tryz.func3, Tryz.ntmps3
  go_wp2_with fail
  refine (next0 fuel _).mono ?_
  rintro e w1 ⟨rfl, h1⟩
  go_wp2_with fail
  refine (same0 _).mono ?_
  rintro e w2 ⟨rfl, h2⟩
  go_wp2_with fail
  refine (steps0 _).mono ?_
  rintro e w3 ⟨rfl, rfl⟩
  go_wp2_with fail
  refine (forks0 _).mono ?_
  rintro e w3 ⟨rfl, rfl⟩
  go_wp2_with fail
  refine (raised0 _).mono ?_
  rintro e w3 ⟨rfl, h3⟩
  go_wp2_with fail
  refine (same0 _).mono ?_
  rintro e w4 ⟨rfl, h4⟩
  go_wp2_with fail
  go_ret
  exact ⟨rfl, belowThen (belowThen (belowThen (belowThen h1 (belowBox _ _)) h2) h3) h4⟩
end Go.Proofs.YtejkmmmdkapbjaaGreatDoor
