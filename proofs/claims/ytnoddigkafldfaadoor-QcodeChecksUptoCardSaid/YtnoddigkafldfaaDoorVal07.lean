/- The reference's validity of values (datakitref07.Check and what it calls): it returns, and writes nothing that was there. -/
import Derived.Test.YtnoddigkafldfaaDoorAccess
import Derived.Test.YtnoddigkafldfaaDoorU03
namespace Go.Proofs.YtnoddigkafldfaaDoor
open Go.RowKit

theorem Below.then {a b c : World} (h : Below a.heap.size a b) (k : Below b.heap.size b c) : Below a.heap.size a c := h.trans (k.mono h.size)
theorem Below.box (w : World) (o : Obj) : Below w.heap.size w (w.alloc o) := (Below.refl _ _).alloc (Nat.le_refl _) _
theorem box_at (w : World) (cs : List Value) (t : TypeId) : CellsAt (w.alloc (.cells cs.toArray t)) w.heap.size 0 cs := fun j _ => by
  rw [World.cell?_alloc_new]; simp
theorem CellsAt.then {w w' : World} {b o : Nat} {cs : List Value} (h : CellsAt w b o cs) (hb : Below w.heap.size w w') (hlt : b < w.heap.size) : CellsAt w' b o cs := h.below hb hlt
theorem CellsAt.get0 {w : World} {b : Nat} {cs : List Value} (h : CellsAt w b 0 cs) {j : Nat} {v : Value} (hv : cs[j]? = some v) : w.cell? ⟨b, j, none⟩ = some v := by
  have := h j (List.getElem?_eq_some_iff.1 hv).1
  rw [Nat.zero_add] at this
  rw [this, hv]
theorem sizeV : (Tryd.prog.info? 38).map (·.size) = some 13 := by kernel_rfl

def decB (x y : DecD) : Bool := x.neg == y.neg && (x.digits.toList == y.digits.toList && x.exp == y.exp)
def timeB (x y : TimeD) : Bool := x.kind == y.kind && (x.day == y.day && (x.nano == y.nano && x.offset == y.offset))
theorem eqDEC (x y : DecD) (w : World) : (Op.equalIn 10000 31 (.agg #[.bool x.neg, .string x.digits, .int .i64 x.exp]) (.agg #[.bool y.neg, .string y.digits, .int .i64 y.exp])).run Tryd.prog w = .ok (decB x y) w := by
  have u3 := Tryd.underlying3
  have a3 := Tryd.isAgg3
  have z3 := Tryd.sizeOf3
  have u4 := Tryd.underlying4
  have a4 := Tryd.isAgg4
  have z4 := Tryd.sizeOf4
  have u9 := Tryd.underlying9
  have a9 := Tryd.isAgg9
  have z9 := Tryd.sizeOf9
  have hS : Tryd.prog.underlying 31 = some (.struct (Tryd.prog.fieldsOf 31)) := by kernel_rfl
  have hp : Tryd.prog.stoodInHeld 31 = false := by kernel_rfl
  rw [show (10000 : Nat) = 9999 + 1 from rfl, run_equalIn_agg w 9999 31 _ _ hS hp]
  simp only [Program.fieldsOf, Tryd.underlying31]
  go_simp
  unfold decB
  by_cases h1 : x.neg = y.neg <;> by_cases h2 : x.digits.toList = y.digits.toList <;> by_cases h3 : x.exp = y.exp <;> simp [h1, h2, h3]
theorem eqTIME (x y : TimeD) (w : World) : (Op.equalIn 10000 33 (.agg #[.int .i64 x.kind, .int .i64 x.day, .int .i64 x.nano, .int .i64 x.offset]) (.agg #[.int .i64 y.kind, .int .i64 y.day, .int .i64 y.nano, .int .i64 y.offset])).run Tryd.prog w = .ok (timeB x y) w := by
  have u3 := Tryd.underlying3
  have a3 := Tryd.isAgg3
  have z3 := Tryd.sizeOf3
  have hS : Tryd.prog.underlying 33 = some (.struct (Tryd.prog.fieldsOf 33)) := by kernel_rfl
  have hp : Tryd.prog.stoodInHeld 33 = false := by kernel_rfl
  rw [show (10000 : Nat) = 9999 + 1 from rfl, run_equalIn_agg w 9999 33 _ _ hS hp]
  simp only [Program.fieldsOf, Tryd.underlying33]
  go_simp
  unfold timeB
  by_cases h1 : x.kind = y.kind <;> by_cases h2 : x.day = y.day <;> by_cases h3 : x.nano = y.nano <;> by_cases h4 : x.offset = y.offset <;> simp [h1, h2, h3, h4]
theorem guardDEC : Program.eqGuardType Tryd.prog Tryd.prog.depth 31 = false := by kernel_rfl
theorem guardTIME : Program.eqGuardType Tryd.prog Tryd.prog.depth 33 = false := by kernel_rfl
/-- '== Decimal{}', '== Time{}' in the walk's form. -/
theorem eqDEC0 (x : DecD) (w : World) : (Op.equalIn 10000 31 (.agg #[.bool x.neg, .string x.digits, .int .i64 x.exp]) (.agg #[.bool false, .string ⟨#[]⟩, .int .i64 0])).run Tryd.prog w = .ok (decB x ⟨false, ⟨#[]⟩, 0⟩) w := eqDEC x ⟨false, ⟨#[]⟩, 0⟩ w
theorem eqTIME0 (x : TimeD) (w : World) : (Op.equalIn 10000 33 (.agg #[.int .i64 x.kind, .int .i64 x.day, .int .i64 x.nano, .int .i64 x.offset]) (.agg #[.int .i64 0, .int .i64 0, .int .i64 0, .int .i64 0])).run Tryd.prog w = .ok (timeB x ⟨0, 0, 0, 0⟩) w := eqTIME x ⟨0, 0, 0, 0⟩ w

/-! ### Digits -/
def SameBool (w : World) (e : Ending) (w' : World) : Prop := ∃ (b : Bool), e = .returned (.bool b) ∧ w = w'
def SameInt (w : World) (e : Ending) (w' : World) : Prop := ∃ (k : Int), e = .returned (.int .i64 k) ∧ w = w'
theorem digits_any (s : ByteArray) (w : World) (hs : s.size ≤ maxLen) : Calls Tryd.prog 69 #[.string s] w (SameBool w) := by
  unfold maxLen at hs
  go_enter Tryd.func69, Tryd.ntmps69
  go_wp2_with fail
  go_loop [3] (fun i => ∃ k : Nat, k ≤ s.size ∧ i = .int .i64 k) (fun i => s.size - (intOf i).toNat)
  case atStart => exact ⟨0, by omega, rfl⟩
  case round =>
    obtain ⟨k, hk, rfl⟩ := hrel
    by_cases hlt : k < s.size
    · go_wp2_with fail
      all_goals first
        | (go_ret; exact ⟨_, rfl, rfl⟩)
        | (go_round
           case rel => exact ⟨k + 1, by omega, by go_num⟩
           case measure => simp [intOf]; omega)
    · go_wp2_with fail
      go_ret
      exact ⟨_, rfl, rfl⟩
theorem zeros_any (s : ByteArray) (w : World) (hs : s.size ≤ maxLen) : Calls Tryd.prog 56 #[.string s] w (SameInt w) := by
  unfold maxLen at hs
  go_enter Tryd.func56, Tryd.ntmps56
  go_wp2_with fail
  go_loop [3] (fun i => ∃ k : Nat, k ≤ s.size ∧ i = .int .i64 k) (fun i => s.size - (intOf i).toNat)
  case atStart => exact ⟨0, by omega, rfl⟩
  case round =>
    obtain ⟨k, hk, rfl⟩ := hrel
    by_cases hlt : k < s.size
    · have hi0 : (0 : Int) ≤ (s.size : Int) - 1 - (k : Int) := by omega
      have hi1 : (s.size : Int) - 1 - (k : Int) < (s.size : Int) := by omega
      go_wp2_with fail
      all_goals first
        | (go_ret; exact ⟨_, rfl, rfl⟩)
        | (go_round
           case rel => exact ⟨k + 1, by omega, by go_num⟩
           case measure => simp [intOf]; omega)
    · go_wp2_with fail
      go_ret
      exact ⟨_, rfl, rfl⟩
theorem valid01_any (s : ByteArray) (w : World) (hs : s.size ≤ maxLen) : Calls Tryd.prog 55 #[.string s] w (SameBool w) := by
  have HS := Lib.hid hs
  unfold maxLen at hs
  by_cases h0 : s.size = 0
  · go_enter Tryd.func55, Tryd.ntmps55
    go_wp2_with (go_at_call 69; refine (digits_any _ _ HS.out).mono ?_; rintro e w' ⟨b, rfl, rfl⟩)
    all_goals (go_ret; exact ⟨_, rfl, rfl⟩)
  · have hp : 0 < s.size := by omega
    clear h0
    go_enter Tryd.func55, Tryd.ntmps55
    go_wp2_with (go_at_call 69; refine (digits_any _ _ HS.out).mono ?_; rintro e w' ⟨b, rfl, rfl⟩)
    all_goals (go_ret; exact ⟨_, rfl, rfl⟩)

set_option maxRecDepth 100000 in
set_option maxHeartbeats 1600000 in
theorem valid02_any (d : DecD) (w : World) (hs : d.digits.size ≤ maxLen) : Calls Tryd.prog 47 #[.agg #[.bool d.neg, .string d.digits, .int .i64 d.exp]] w (SomeBool w) := by
  have HS := Lib.hid hs
  go_enter Tryd.func47, Tryd.ntmps47
  go_wp2_with (first | (go_at_call 55; refine (valid01_any _ _ HS.out).mono ?_; rintro e w' ⟨b, rfl, rfl⟩) | (go_at_call 56; refine (zeros_any _ _ HS.out).mono ?_; rintro e w' ⟨b, rfl, rfl⟩))
  all_goals (go_ret; exact ⟨_, rfl, Below.box _ _⟩)

theorem dated_any (k : Int) (w : World) : Calls Tryd.prog 57 #[.int .i64 k] w (SameBool w) := by
  go_enter Tryd.func57, Tryd.ntmps57
  go_wp2
  all_goals (go_ret; exact ⟨_, rfl, rfl⟩)
theorem clocked_any (k : Int) (w : World) : Calls Tryd.prog 58 #[.int .i64 k] w (SameBool w) := by
  go_enter Tryd.func58, Tryd.ntmps58
  go_wp2
  all_goals (go_ret; exact ⟨_, rfl, rfl⟩)
set_option maxRecDepth 100000 in
set_option maxHeartbeats 1600000 in
theorem valid05_any (t : TimeD) (w : World) : Calls Tryd.prog 48 #[.agg #[.int .i64 t.kind, .int .i64 t.day, .int .i64 t.nano, .int .i64 t.offset]] w (SomeBool w) := by
  go_enter Tryd.func48, Tryd.ntmps48
  go_wp2_with (first | (go_at_call 57; refine (dated_any _ _).mono ?_; rintro e w' ⟨b, rfl, rfl⟩) | (go_at_call 58; refine (clocked_any _ _).mono ?_; rintro e w' ⟨b, rfl, rfl⟩))
  all_goals (go_ret; exact ⟨_, rfl, Below.box _ _⟩)

/-! ### One value -/
set_option maxRecDepth 100000 in
set_option maxHeartbeats 1600000 in
theorem own_any (v : ValD) (w : World) (B N : Nat) (cs : List Value) (hv : ValD.At w B N v cs) : Calls Tryd.prog 46 #[.agg cs.toArray] w (SomeBool w) := by
  obtain ⟨ya, la, va, yc, lc, vc, hh⟩ := hv.has
  clear hv
  have c0 := hh.kind
  have c1 := hh.bool
  have c2 := hh.neg
  have c3 := hh.digits
  have c4 := hh.exp
  have c5 := hh.tkind
  have c6 := hh.day
  have c7 := hh.nano
  have c8 := hh.offset
  have c9 := hh.text
  have c10 := hh.bytes
  have c11 := hh.list
  have c12 := hh.fields
  clear hh
  have E1 := eqDEC0 v.num
  have E2 := eqTIME0 v.time
  have G1 := guardDEC
  have G2 := guardTIME
  go_enter Tryd.func46, Tryd.ntmps46
  go_wp2
  all_goals (go_ret; exact ⟨_, rfl, Below.box _ _⟩)
end Go.Proofs.YtnoddigkafldfaaDoor
