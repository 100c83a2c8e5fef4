/- What a value's kind lets it have (datakitref07.own, value.extra): the same test. -/
import Derived.Test.YtfegnmbdgdjkgaaGreatDoorGH
import Derived.Deep.Light
namespace Go.Proofs.YtfegnmbdgdjkgaaGreatDoor
open Go.RowKit

theorem toList_nil_iff (a : ByteArray) : a.toList = [] ↔ a.size = 0 := by
  constructor
  · intro e
    rcases Nat.eq_zero_or_pos a.size with h | h
    · exact h
    · exact absurd e (ne_toList h)
  · exact toList_nil
theorem ownB_iff (v : ValD) : ownB v = true ↔ (0 ≤ v.kind ∧ v.kind ≤ 7 ∧ (v.kind ≠ 1 → v.bool = false) ∧ (v.kind ≠ 2 → decB v.num ⟨false, ⟨#[]⟩, 0⟩ = true) ∧ (v.kind ≠ 3 → timeB v.time ⟨0, 0, 0, 0⟩ = true) ∧ (v.kind ≠ 4 → v.text.toList = []) ∧
    (v.kind ≠ 5 → (v.bytes.length : Int) = 0) ∧ (v.kind ≠ 6 → (v.list.length : Int) = 0) ∧ (v.kind ≠ 7 → (v.fields.length : Int) = 0)) := by
  unfold ownB
  rw [decide_eq_true_eq, toList_nil_iff]
  simp only [Int.natCast_eq_zero]
set_option maxRecDepth 100000 in
set_option maxHeartbeats 3200000 in
theorem own_exact (v : ValD) (w : World) (B N : Nat) (cs : List Value) (hv : ValD.At w B N v cs) : Calls Tryz.prog 122 #[.agg cs.toArray] w (BolR (ownB v) w) := by
  obtain ⟨ya, la, va, yc, lc, vc, hh⟩ := hv.has
  clear hv
  have c0 := hh.kind
  have c1 := hh.bool
  have c2 := hh.neg
  have c3 := hh.digits
  have c4 := hh.exp
  have c5 := hh.tkind
  have c6 := hh.day
  have c7 := hh.nano
  have c8 := hh.offset
  have c9 := hh.text
  have c10 := hh.bytes
  have c11 := hh.list
  have c12 := hh.fields
  clear hh
  have E1 := eqDEC0 v.num
  have E2 := eqTIME0 v.time
  have G1 := guardDEC
  have G2 := guardTIME
  have HO := Lib.hid (ownB_iff v)
  generalize ownB v = ob at *
  generalize decB v.num ⟨false, ⟨#[]⟩, 0⟩ = db at *
  generalize timeB v.time ⟨0, 0, 0, 0⟩ = tb at *
  generalize v.bytes.length = n1 at *
  generalize v.list.length = n2 at *
  generalize v.fields.length = n3 at *
  go_enter Tryz.func122, Tryz.ntmps122
  go_wp2
  all_goals
    go_ret
    refine ⟨ret_bool (bool_of ?_), Below.box _ _⟩
    have hv := HO.out
    clear HO E1 E2 G1 G2 c0 c1 c2 c3 c4 c5 c6 c7 c8 c9 c10 c11 c12
    go_light
    grind
end Go.Proofs.YtfegnmbdgdjkgaaGreatDoor
