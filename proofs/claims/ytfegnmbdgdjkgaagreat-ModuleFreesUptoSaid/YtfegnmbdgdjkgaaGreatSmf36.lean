/- The small functions of the check of expressions, on both sides: what they give. -/
import Derived.Test.YtfegnmbdgdjkgaaGreatGG
import Derived.Deep.Light
namespace Go.Proofs.YtfegnmbdgdjkgaaGreat
open Go.RowKit

theorem ops31 {op : Int} (h : 1 ≤ op ∧ op ≤ 30) : op = 1 ∨ op = 2 ∨ op = 3 ∨ op = 4 ∨ op = 5 ∨ op = 6 ∨ op = 7 ∨ op = 8 ∨ op = 9 ∨ op = 10 ∨ op = 11 ∨ op = 12 ∨ op = 13 ∨ op = 14 ∨ op = 15 ∨ op = 16 ∨ op = 17 ∨ op = 18 ∨ op = 19 ∨ op = 20 ∨ op = 21 ∨ op = 22 ∨ op = 23 ∨ op = 24 ∨ op = 25 ∨ op = 26 ∨ op = 27 ∨ op = 28 ∨ op = 29 ∨ op = 30 := by omega
set_option maxRecDepth 100000 in
set_option maxHeartbeats 3200000 in
theorem zero_r (v : ValD) (w : World) (B N : Nat) (cs : List Value) (hv : ValD.At w B N v cs) : Calls Tryz.prog 34 #[.agg cs.toArray] w (BolR (zeroB v) w) := by
  obtain ⟨ya, la, va, yc, lc, vc, hh⟩ := hv.has
  clear hv
  have c0 := hh.kind
  have c1 := hh.bool
  have c2 := hh.neg
  have c3 := hh.digits
  have c4 := hh.exp
  have c5 := hh.tkind
  have c6 := hh.day
  have c7 := hh.nano
  have c8 := hh.offset
  have c9 := hh.text
  have c10 := hh.bytes
  have c11 := hh.list
  have c12 := hh.fields
  clear hh
  have E1 := eqDEC0 v.num
  have E2 := eqTIME0 v.time
  have G1 := guardDEC
  have G2 := guardTIME
  have HO := Lib.hid (zeroB_iff v)
  generalize zeroB v = ob at *
  generalize decB v.num ⟨false, ⟨#[]⟩, 0⟩ = db at *
  generalize timeB v.time ⟨0, 0, 0, 0⟩ = tb at *
  generalize v.bytes.length = n1 at *
  generalize v.list.length = n2 at *
  generalize v.fields.length = n3 at *
  go_enter Tryz.func34, Tryz.ntmps34
  go_wp2
  all_goals
    go_ret
    refine ⟨ret_bool (bool_of ?_), Below.box _ _⟩
    have hv := HO.out
    clear HO E1 E2 G1 G2 c0 c1 c2 c3 c4 c5 c6 c7 c8 c9 c10 c11 c12
    go_light
    grind
set_option maxHeartbeats 1600000 in
theorem lit_r (v : ValD) (w : World) (B N : Nat) (cs : List Value) (hv : ValD.At w B N v cs) : Calls Tryz.prog 36 #[.agg cs.toArray] w (BolR (litB v) w) := by
  obtain ⟨ya, la, va, yc, lc, vc, hh⟩ := hv.has
  clear hv
  have c0 := hh.kind
  have c2 := hh.neg
  clear hh
  have HO := Lib.hid (show litB v = true ↔ (v.kind = 0 ∨ v.kind = 1 ∨ (v.kind = 2 ∧ v.num.neg = false) ∨ v.kind = 4) from by unfold litB; rw [decide_eq_true_eq])
  generalize litB v = ob at *
  go_enter Tryz.func36, Tryz.ntmps36
  go_wp2
  all_goals
    go_ret
    refine ⟨ret_bool (bool_of ?_), Below.box _ _⟩
    have hv := HO.out
    clear HO c0 c2
    go_light
    grind
set_option maxRecDepth 100000 in
set_option maxHeartbeats 6400000 in
theorem named_r (op : Int) (w : World) (h : 1 ≤ op ∧ op ≤ 30) : Calls Tryz.prog 33 #[.int .i64 op] w (fun e w' => e = .returned (.bool (hasB op)) ∧ w' = w) := by
  rcases ops31 h with rfl | rfl | rfl | rfl | rfl | rfl | rfl | rfl | rfl | rfl | rfl | rfl | rfl | rfl | rfl | rfl | rfl | rfl | rfl | rfl | rfl | rfl | rfl | rfl | rfl | rfl | rfl | rfl | rfl | rfl
  all_goals
    clear h
    go_enter Tryz.func33, Tryz.ntmps33
    go_wp2
    all_goals
      go_ret
      exact ⟨rfl, rfl⟩
/-- From which place on the reference's table lets an argument be absent. -/
def frmE (op : Int) : Int := if numE op < 0 then 65536 else (optE op : Int)
set_option maxRecDepth 100000 in
set_option maxHeartbeats 6400000 in
theorem args_r (op : Int) (w : World) (h : 1 ≤ op ∧ op ≤ 30) : Calls Tryz.prog 31 #[.int .i64 op] w (fun e w' => e = .returned (.tuple #[.int .i64 (numE op), .int .i64 (frmE op)]) ∧ w' = w) := by
  rcases ops31 h with rfl | rfl | rfl | rfl | rfl | rfl | rfl | rfl | rfl | rfl | rfl | rfl | rfl | rfl | rfl | rfl | rfl | rfl | rfl | rfl | rfl | rfl | rfl | rfl | rfl | rfl | rfl | rfl | rfl | rfl
  all_goals
    clear h
    go_enter Tryz.func31, Tryz.ntmps31
    go_wp2
    all_goals
      go_ret2
      exact ⟨rfl, rfl⟩
/-- May an operator have so many arguments? -/
def cntB (op : Int) (n : Nat) : Bool := decide (op ≤ 29 ∧ (0 ≤ numE op → (n : Int) = numE op) ∧ (op = 21 → n ≤ 8) ∧ (op = 25 → n % 2 = 0))
end Go.Proofs.YtfegnmbdgdjkgaaGreat
