/- What a value's kind lets it have (value.extra): the same test as the reference's. -/
import Derived.Test.YtmbldgcbnkhabaaGreatDoorOwn7
namespace Go.Proofs.YtmbldgcbnkhabaaGreatDoor
open Go.RowKit

set_option maxRecDepth 100000 in
set_option maxHeartbeats 3200000 in
/-- The program's test asks only of a kind that there is. -/
theorem extra_exact (v : ValD) (w : World) (B N : Nat) (cs : List Value) (h0 : 0 ≤ v.kind) (h7 : v.kind < 8) (hv : ValD.At w B N v cs) : Calls Tryz.prog 47 #[.agg cs.toArray] w (BolR (!ownB v) w) := by
  obtain ⟨ya, la, va, yc, lc, vc, hh⟩ := hv.has
  clear hv
  have c0 := hh.kind
  have c1 := hh.bool
  have c2 := hh.neg
  have c3 := hh.digits
  have c4 := hh.exp
  have c5 := hh.tkind
  have c6 := hh.day
  have c7 := hh.nano
  have c8 := hh.offset
  have c9 := hh.text
  have c10 := hh.bytes
  have c11 := hh.list
  have c12 := hh.fields
  clear hh
  have E1 := eqDEC0 v.num
  have E2 := eqTIME0 v.time
  have G1 := guardDEC
  have G2 := guardTIME
  have HO := Lib.hid (ownB_iff v)
  generalize ownB v = ob at *
  generalize decB v.num ⟨false, ⟨#[]⟩, 0⟩ = db at *
  generalize timeB v.time ⟨0, 0, 0, 0⟩ = tb at *
  generalize v.bytes.length = n1 at *
  generalize v.list.length = n2 at *
  generalize v.fields.length = n3 at *
  generalize v.kind = kd at *
  go_enter Tryz.func47, Tryz.ntmps47
  simp only [List.append_eq, List.cons_append, List.nil_append]
  go_wp2
  all_goals
    go_ret
    refine ⟨ret_bool (bool_of ?_), Below.box _ _⟩
    have hv := HO.out
    clear HO E1 E2 G1 G2 c0 c1 c2 c3 c4 c5 c6 c7 c8 c9 c10 c11 c12
    go_light
    grind
end Go.Proofs.YtmbldgcbnkhabaaGreatDoor
