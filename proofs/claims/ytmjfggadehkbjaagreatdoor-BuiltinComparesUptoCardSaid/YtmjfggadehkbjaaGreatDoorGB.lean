/- The reference's validity of values (datakitref07.Check and what it calls): it returns, and writes nothing that was there. -/
import Derived.Test.YtmjfggadehkbjaaGreatDoorGA
import Derived.Test.YtmjfggadehkbjaaGreatDoorU03
namespace Go.Proofs.YtmjfggadehkbjaaGreatDoor
open Go.RowKit

theorem Below.then {a b c : World} (h : Below a.heap.size a b) (k : Below b.heap.size b c) : Below a.heap.size a c := h.trans (k.mono h.size)
theorem Below.box (w : World) (o : Obj) : Below w.heap.size w (w.alloc o) := (Below.refl _ _).alloc (Nat.le_refl _) _
theorem box_at (w : World) (cs : List Value) (t : TypeId) : CellsAt (w.alloc (.cells cs.toArray t)) w.heap.size 0 cs := fun j _ => by
  rw [World.cell?_alloc_new]; simp
theorem CellsAt.then {w w' : World} {b o : Nat} {cs : List Value} (h : CellsAt w b o cs) (hb : Below w.heap.size w w') (hlt : b < w.heap.size) : CellsAt w' b o cs := h.below hb hlt
theorem CellsAt.get0 {w : World} {b : Nat} {cs : List Value} (h : CellsAt w b 0 cs) {j : Nat} {v : Value} (hv : cs[j]? = some v) : w.cell? ⟨b, j, none⟩ = some v := by
  have := h j (List.getElem?_eq_some_iff.1 hv).1
  rw [Nat.zero_add] at this
  rw [this, hv]
theorem sizeV : (Tryz.prog.info? 30).map (·.size) = some 13 := by kernel_rfl

def decB (x y : DecD) : Bool := x.neg == y.neg && (x.digits.toList == y.digits.toList && x.exp == y.exp)
def timeB (x y : TimeD) : Bool := x.kind == y.kind && (x.day == y.day && (x.nano == y.nano && x.offset == y.offset))
theorem eqDEC (x y : DecD) (w : World) : (Op.equalIn 10000 23 (.agg #[.bool x.neg, .string x.digits, .int .i64 x.exp]) (.agg #[.bool y.neg, .string y.digits, .int .i64 y.exp])).run Tryz.prog w = .ok (decB x y) w := by
  have u3 := Tryz.underlying3
  have a3 := Tryz.isAgg3
  have z3 := Tryz.sizeOf3
  have u4 := Tryz.underlying4
  have a4 := Tryz.isAgg4
  have z4 := Tryz.sizeOf4
  have u9 := Tryz.underlying9
  have a9 := Tryz.isAgg9
  have z9 := Tryz.sizeOf9
  have hS : Tryz.prog.underlying 23 = some (.struct (Tryz.prog.fieldsOf 23)) := by kernel_rfl
  have hp : Tryz.prog.stoodInHeld 23 = false := by kernel_rfl
  rw [show (10000 : Nat) = 9999 + 1 from rfl, run_equalIn_agg w 9999 23 _ _ hS hp]
  simp only [Program.fieldsOf, Tryz.underlying23]
  go_simp
  unfold decB
  by_cases h1 : x.neg = y.neg <;> by_cases h2 : x.digits.toList = y.digits.toList <;> by_cases h3 : x.exp = y.exp <;> simp [h1, h2, h3]
theorem eqTIME (x y : TimeD) (w : World) : (Op.equalIn 10000 25 (.agg #[.int .i64 x.kind, .int .i64 x.day, .int .i64 x.nano, .int .i64 x.offset]) (.agg #[.int .i64 y.kind, .int .i64 y.day, .int .i64 y.nano, .int .i64 y.offset])).run Tryz.prog w = .ok (timeB x y) w := by
  have u3 := Tryz.underlying3
  have a3 := Tryz.isAgg3
  have z3 := Tryz.sizeOf3
  have hS : Tryz.prog.underlying 25 = some (.struct (Tryz.prog.fieldsOf 25)) := by kernel_rfl
  have hp : Tryz.prog.stoodInHeld 25 = false := by kernel_rfl
  rw [show (10000 : Nat) = 9999 + 1 from rfl, run_equalIn_agg w 9999 25 _ _ hS hp]
  simp only [Program.fieldsOf, Tryz.underlying25]
  go_simp
  unfold timeB
  by_cases h1 : x.kind = y.kind <;> by_cases h2 : x.day = y.day <;> by_cases h3 : x.nano = y.nano <;> by_cases h4 : x.offset = y.offset <;> simp [h1, h2, h3, h4]
theorem guardDEC : Program.eqGuardType Tryz.prog Tryz.prog.depth 23 = false := by kernel_rfl
theorem guardTIME : Program.eqGuardType Tryz.prog Tryz.prog.depth 25 = false := by kernel_rfl
/-- '== Decimal{}', '== Time{}' in the walk's form. -/
theorem eqDEC0 (x : DecD) (w : World) : (Op.equalIn 10000 23 (.agg #[.bool x.neg, .string x.digits, .int .i64 x.exp]) (.agg #[.bool false, .string ⟨#[]⟩, .int .i64 0])).run Tryz.prog w = .ok (decB x ⟨false, ⟨#[]⟩, 0⟩) w := eqDEC x ⟨false, ⟨#[]⟩, 0⟩ w
theorem eqTIME0 (x : TimeD) (w : World) : (Op.equalIn 10000 25 (.agg #[.int .i64 x.kind, .int .i64 x.day, .int .i64 x.nano, .int .i64 x.offset]) (.agg #[.int .i64 0, .int .i64 0, .int .i64 0, .int .i64 0])).run Tryz.prog w = .ok (timeB x ⟨0, 0, 0, 0⟩) w := eqTIME x ⟨0, 0, 0, 0⟩ w

/-! ### Digits -/
def SameBool (w : World) (e : Ending) (w' : World) : Prop := ∃ (b : Bool), e = .returned (.bool b) ∧ w = w'
def SameInt (w : World) (e : Ending) (w' : World) : Prop := ∃ (k : Int), e = .returned (.int .i64 k) ∧ w = w'
theorem digits_any (s : ByteArray) (w : World) (hs : s.size ≤ maxLen) : Calls Tryz.prog 204 #[.string s] w (SameBool w) := by
  unfold maxLen at hs
  go_enter Tryz.func204, Tryz.ntmps204
  go_wp2_with fail
  go_loop [3] (fun i => ∃ k : Nat, k ≤ s.size ∧ i = .int .i64 k) (fun i => s.size - (intOf i).toNat)
  case atStart => exact ⟨0, by omega, rfl⟩
  case round =>
    obtain ⟨k, hk, rfl⟩ := hrel
    by_cases hlt : k < s.size
    · go_wp2_with fail
      all_goals first
        | (go_ret; exact ⟨_, rfl, rfl⟩)
        | (go_round
           case rel => exact ⟨k + 1, by omega, by go_num⟩
           case measure => simp [intOf]; omega)
    · go_wp2_with fail
      go_ret
      exact ⟨_, rfl, rfl⟩
theorem zeros_any (s : ByteArray) (w : World) (hs : s.size ≤ maxLen) : Calls Tryz.prog 136 #[.string s] w (SameInt w) := by
  unfold maxLen at hs
  go_enter Tryz.func136, Tryz.ntmps136
  go_wp2_with fail
  go_loop [3] (fun i => ∃ k : Nat, k ≤ s.size ∧ i = .int .i64 k) (fun i => s.size - (intOf i).toNat)
  case atStart => exact ⟨0, by omega, rfl⟩
  case round =>
    obtain ⟨k, hk, rfl⟩ := hrel
    by_cases hlt : k < s.size
    · have hi0 : (0 : Int) ≤ (s.size : Int) - 1 - (k : Int) := by omega
      have hi1 : (s.size : Int) - 1 - (k : Int) < (s.size : Int) := by omega
      go_wp2_with fail
      all_goals first
        | (go_ret; exact ⟨_, rfl, rfl⟩)
        | (go_round
           case rel => exact ⟨k + 1, by omega, by go_num⟩
           case measure => simp [intOf]; omega)
    · go_wp2_with fail
      go_ret
      exact ⟨_, rfl, rfl⟩
theorem valid01_any (s : ByteArray) (w : World) (hs : s.size ≤ maxLen) : Calls Tryz.prog 182 #[.string s] w (SameBool w) := by
  have HS := Lib.hid hs
  unfold maxLen at hs
  by_cases h0 : s.size = 0
  · go_enter Tryz.func182, Tryz.ntmps182
    go_wp2_with (go_at_call 204; refine (digits_any _ _ HS.out).mono ?_; rintro e w' ⟨b, rfl, rfl⟩)
    all_goals (go_ret; exact ⟨_, rfl, rfl⟩)
  · have hp : 0 < s.size := by omega
    clear h0
    go_enter Tryz.func182, Tryz.ntmps182
    go_wp2_with (go_at_call 204; refine (digits_any _ _ HS.out).mono ?_; rintro e w' ⟨b, rfl, rfl⟩)
    all_goals (go_ret; exact ⟨_, rfl, rfl⟩)

set_option maxRecDepth 100000 in
set_option maxHeartbeats 1600000 in
theorem valid02_any (d : DecD) (w : World) (hs : d.digits.size ≤ maxLen) : Calls Tryz.prog 140 #[.agg #[.bool d.neg, .string d.digits, .int .i64 d.exp]] w (SomeBool w) := by
  have HS := Lib.hid hs
  go_enter Tryz.func140, Tryz.ntmps140
  go_wp2_with (first | (go_at_call 182; refine (valid01_any _ _ HS.out).mono ?_; rintro e w' ⟨b, rfl, rfl⟩) | (go_at_call 136; refine (zeros_any _ _ HS.out).mono ?_; rintro e w' ⟨b, rfl, rfl⟩))
  all_goals (go_ret; exact ⟨_, rfl, Below.box _ _⟩)

theorem dated_any (k : Int) (w : World) : Calls Tryz.prog 183 #[.int .i64 k] w (SameBool w) := by
  go_enter Tryz.func183, Tryz.ntmps183
  go_wp2
  all_goals (go_ret; exact ⟨_, rfl, rfl⟩)
theorem clocked_any (k : Int) (w : World) : Calls Tryz.prog 184 #[.int .i64 k] w (SameBool w) := by
  go_enter Tryz.func184, Tryz.ntmps184
  go_wp2
  all_goals (go_ret; exact ⟨_, rfl, rfl⟩)
set_option maxRecDepth 100000 in
set_option maxHeartbeats 1600000 in
theorem valid05_any (t : TimeD) (w : World) : Calls Tryz.prog 141 #[.agg #[.int .i64 t.kind, .int .i64 t.day, .int .i64 t.nano, .int .i64 t.offset]] w (SomeBool w) := by
  go_enter Tryz.func141, Tryz.ntmps141
  go_wp2_with (first | (go_at_call 183; refine (dated_any _ _).mono ?_; rintro e w' ⟨b, rfl, rfl⟩) | (go_at_call 184; refine (clocked_any _ _).mono ?_; rintro e w' ⟨b, rfl, rfl⟩))
  all_goals (go_ret; exact ⟨_, rfl, Below.box _ _⟩)

/-! ### One value -/
set_option maxRecDepth 100000 in
set_option maxHeartbeats 1600000 in
theorem own_any (v : ValD) (w : World) (B N : Nat) (cs : List Value) (hv : ValD.At w B N v cs) : Calls Tryz.prog 139 #[.agg cs.toArray] w (SomeBool w) := by
  obtain ⟨ya, la, va, yc, lc, vc, hh⟩ := hv.has
  clear hv
  have c0 := hh.kind
  have c1 := hh.bool
  have c2 := hh.neg
  have c3 := hh.digits
  have c4 := hh.exp
  have c5 := hh.tkind
  have c6 := hh.day
  have c7 := hh.nano
  have c8 := hh.offset
  have c9 := hh.text
  have c10 := hh.bytes
  have c11 := hh.list
  have c12 := hh.fields
  clear hh
  have E1 := eqDEC0 v.num
  have E2 := eqTIME0 v.time
  have G1 := guardDEC
  have G2 := guardTIME
  go_enter Tryz.func139, Tryz.ntmps139
  go_wp2
  all_goals (go_ret; exact ⟨_, rfl, Below.box _ _⟩)
end Go.Proofs.YtmjfggadehkbjaaGreatDoor

/- The reference's validity of values, on: keys, one value, the values in it, all of it. -/
namespace Go.Proofs.YtmjfggadehkbjaaGreatDoor
open Go.RowKit

theorem belowThen {a b c : World} (h : Below a.heap.size a b) (k : Below b.heap.size b c) : Below a.heap.size a c := h.trans (k.mono h.size)
theorem belowBox (w : World) (o : Obj) : Below w.heap.size w (w.alloc o) := (Below.refl _ _).alloc (Nat.le_refl _) _
theorem below_drewN' {w wr : World} (h : ∃ m, wr = w.drewN m) : Below w.heap.size w wr := by
  obtain ⟨m, rfl⟩ := h
  exact below_drewN w m

set_option maxRecDepth 100000 in
set_option maxHeartbeats 1600000 in
theorem keys_any (l : List (ByteArray × ValD)) (a : Option Addr) (c : Nat) (w : World) (B N : Nat) (hN : N ≤ 4294967296) (hl : l.length ≤ N) (hB : B ≤ w.heap.size) (h : FieldsAt w B N l a) :
    Calls Tryz.prog 143 #[.slice a l.length c] w (SomeInt w) := by
  have H := Lib.hid h
  clear h
  go_enter Tryz.func143, Tryz.ntmps143
  go_wp2_with fail
  go_loopw [3] (fun i wr => ∃ k : Nat, k ≤ l.length ∧ i = .int .i64 k ∧ Below w.heap.size w wr) (fun i _ => l.length - (intOf i).toNat)
  case atStart => exact ⟨0, by omega, rfl, Below.refl _ _⟩
  case round =>
    obtain ⟨k, hk, rfl, hbel⟩ := hrel
    have HB := Lib.hid hbel
    clear hbel
    by_cases hlt : k < l.length
    · obtain ⟨b, o, rfl, hb, hget⟩ := (H.out.below (HB.out.mono hB)).get (by intro h; simp [h] at hlt)
      obtain ⟨cs1, hs1, h1, _⟩ := hget k hlt
      have HG := Lib.hid hget
      have hsz := HB.out.size
      have e1 := h1.get0' rfl
      clear h1 hget
      go_wp2_with fail
      refine (valid_any _ _ (by omega)).mono ?_
      rintro e w1 ⟨ok, rfl, hb1⟩
      have HB1 := Lib.hid (belowThen HB.out hb1)
      have e2 := (hb1.cell (p := ⟨b, o + k * 14, none⟩) (by show b < wr.heap.size; omega)).trans e1
      have HW := Lib.hid hb1
      clear hb1
      cases ok
      · go_wp2_with fail
        go_ret
        exact ⟨_, rfl, HB1.out⟩
      · by_cases hl4 : 1024 < l[k].1.size
        · go_wp2_with fail
          go_ret
          exact ⟨_, rfl, HB1.out⟩
        · go_wp2_with fail
          go_simp
          go_loopw [4] (fun i wr2 => ∃ j : Nat, j ≤ k ∧ i = .int .i64 j ∧ ∃ m, wr2 = w1.drewN m) (fun i _ => k - (intOf i).toNat)
          case atStart => exact ⟨0, by omega, rfl, 0, rfl⟩
          case round =>
            obtain ⟨j, hj, rfl, m, rfl⟩ := hrel
            by_cases hjk : j < k
            · obtain ⟨cs2, hs2, h2, _⟩ := HG.out j (by omega)
              have e3 := (HW.out.cell (p := ⟨b, o + j * 14, none⟩) (by show b < wr.heap.size; omega)).trans (h2.get0' rfl)
              have hjl : j < l.length := by omega
              clear h2
              go_wp2_with fail
              go_quiet (fail)
              go_wp2_with fail
              · go_ret
                exact ⟨_, rfl, belowThen HB1.out (below_drewN' ⟨_, World.drewN_drewN _ _ _⟩)⟩
              · go_roundw
                case rel => exact ⟨j + 1, by omega, by go_num, _, rfl⟩
                case measure => simp [intOf]; omega
            · go_wp2_with fail
              go_roundw
              case rel => exact ⟨k + 1, by omega, by go_num, belowThen HB1.out (below_drewN _ _)⟩
              case measure => simp [intOf]; omega
    · go_wp2_with fail
      go_ret
      exact ⟨_, rfl, HB.out⟩
end Go.Proofs.YtmjfggadehkbjaaGreatDoor

/- The reference's validity of values, on: one value, the values in it, all of it. -/
namespace Go.Proofs.YtmjfggadehkbjaaGreatDoor
open Go.RowKit

set_option maxRecDepth 100000 in
set_option maxHeartbeats 3200000 in
theorem one_any (v : ValD) (w : World) (B N : Nat) (cs : List Value) (hN : N ≤ 4294967296) (hB : B ≤ w.heap.size) (hv : ValD.At w B N v cs) : Calls Tryz.prog 86 #[.agg cs.toArray] w (SomeInt w) := by
  obtain ⟨ya, la, va, yc, lc, vc, hh⟩ := hv.has
  have HV := Lib.hid hv
  have hds : v.num.digits.size ≤ N := hh.own.2.2.2.2.2.2.1
  have hts : v.text.size ≤ N := hh.own.2.2.2.2.2.2.2.1
  have hfs : v.fields.length ≤ N := hh.own.2.2.2.2.2.2.2.2.2.2
  have HH := Lib.hid hh
  have hl := Lib.hid (show (Tryz.prog.info? 30).map (·.size) = some cs.length by rw [hv.len]; exact sizeV)
  have HR := Lib.hid (box_at w cs 30)
  have H0 := Lib.hid (show Below w.heap.size w (w.alloc (.cells cs.toArray 30)) from belowBox w _)
  clear hh hv
  go_enter Tryz.func86, Tryz.ntmps86
  go_wp2_with (refine wpList_load_mid rfl 30 _ rfl w.heap.size 0 rfl cs _ (box_at w cs 30).range Tryz.underlying30 rfl hl.out ?_)
  refine (own_any v _ B N cs (HV.out.below (H0.out.mono hB))).mono ?_
  rintro e w1 ⟨b1, rfl, hb1⟩
  have hs0 : w.heap.size < (w.alloc (.cells cs.toArray 30)).heap.size := by rw [World.size_alloc]; omega
  have R1 := Lib.hid (HR.out.then hb1 hs0)
  have H1 := Lib.hid (belowThen H0.out hb1)
  have hs1 : w.heap.size < w1.heap.size := Nat.lt_of_lt_of_le hs0 hb1.size
  clear hb1 HR H0 hs0
  cases b1
  · go_wp2_with fail
    go_ret
    exact ⟨_, rfl, H1.out⟩
  have d2 := R1.out.get0 HH.out.neg
  have d3 := R1.out.get0 HH.out.digits
  have d4 := R1.out.get0 HH.out.exp
  go_wp2_with fail
  refine (valid02_any v.num _ (by unfold maxLen; omega)).mono ?_
  rintro e w2 ⟨b2, rfl, hb2⟩
  have R2 := Lib.hid (R1.out.then hb2 hs1)
  have H2 := Lib.hid (belowThen H1.out hb2)
  have hs2 : w.heap.size < w2.heap.size := Nat.lt_of_lt_of_le hs1 hb2.size
  clear hb2 R1 H1 hs1 d2 d3 d4
  cases b2
  · go_wp2_with fail
    go_ret
    exact ⟨_, rfl, H2.out⟩
  have d0 := R2.out.get0 HH.out.kind
  have d5 := R2.out.get0 HH.out.tkind
  have d6 := R2.out.get0 HH.out.day
  have d7 := R2.out.get0 HH.out.nano
  have d8 := R2.out.get0 HH.out.offset
  have d9 := R2.out.get0 HH.out.text
  have d10 := R2.out.get0 HH.out.bytes
  have d12 := R2.out.get0 HH.out.fields
  -- what stands behind the test of the time
  have rest : ∀ w3 : World, Below w2.heap.size w2 w3 → w.heap.size < w3.heap.size ∧ Below w.heap.size w w3 ∧ w3.cell? ⟨w.heap.size, 9, none⟩ = some (.string v.text) ∧ w3.cell? ⟨w.heap.size, 10, none⟩ = some (.slice ya v.bytes.length yc) ∧ w3.cell? ⟨w.heap.size, 12, none⟩ = some (.slice va v.fields.length vc) := fun w3 hb3 =>
    ⟨Nat.lt_of_lt_of_le hs2 hb3.size, belowThen H2.out hb3, (hb3.cell (p := ⟨w.heap.size, 9, none⟩) hs2).trans d9, (hb3.cell (p := ⟨w.heap.size, 10, none⟩) hs2).trans d10, (hb3.cell (p := ⟨w.heap.size, 12, none⟩) hs2).trans d12⟩
  have REST := Lib.hid rest
  clear rest d9 d10 d12
  by_cases hk : v.kind = 3
  · rw [hk] at d0
    go_wp2_with fail
    refine (valid05_any v.time _).mono ?_
    rintro e w3 ⟨b3, rfl, hb3⟩
    obtain ⟨hs3, h3, d9, d10, d12⟩ := REST.out _ hb3
    have H3 := Lib.hid h3
    clear hb3 h3 d0 d5 d6 d7 d8 R2 H2 hs2
    cases b3
    · go_wp2_with fail
      go_ret
      exact ⟨_, rfl, H3.out⟩
    go_wp2_with fail
    refine (valid_any v.text _ (by omega)).mono ?_
    rintro e w4 ⟨b4, rfl, hb4⟩
    have H4 := Lib.hid (belowThen H3.out hb4)
    have d9' := (hb4.cell (p := ⟨w.heap.size, 9, none⟩) hs3).trans d9
    have d10' := (hb4.cell (p := ⟨w.heap.size, 10, none⟩) hs3).trans d10
    have d12' := (hb4.cell (p := ⟨w.heap.size, 12, none⟩) hs3).trans d12
    clear hb4 d9 d10 d12
    cases b4
    · go_wp2_with fail
      go_ret
      exact ⟨_, rfl, H4.out⟩
    go_wp2_with fail
    all_goals first
      | (go_ret; exact ⟨_, rfl, H4.out⟩)
      | (refine (keys_any v.fields va vc _ B N hN hfs (Nat.le_trans hB H4.out.size) (HH.out.atFields.below (H4.out.mono hB))).mono ?_
         rintro e w5 ⟨k5, rfl, hb5⟩
         have H5 := Lib.hid (belowThen H4.out hb5)
         clear hb5
         go_wp2_with fail
         go_ret
         exact ⟨_, rfl, H5.out⟩)
  · have hk' : (v.kind == 3) = false := by simpa using hk
    clear hk
    obtain ⟨hs3, h3, d9, d10, d12⟩ := REST.out _ (Below.refl _ _)
    have H3 := Lib.hid h3
    clear h3 d5 d6 d7 d8 R2 H2 hs2
    go_wp2_with fail
    refine (valid_any v.text _ (by omega)).mono ?_
    rintro e w4 ⟨b4, rfl, hb4⟩
    have H4 := Lib.hid (belowThen H3.out hb4)
    have d9' := (hb4.cell (p := ⟨w.heap.size, 9, none⟩) hs3).trans d9
    have d10' := (hb4.cell (p := ⟨w.heap.size, 10, none⟩) hs3).trans d10
    have d12' := (hb4.cell (p := ⟨w.heap.size, 12, none⟩) hs3).trans d12
    clear hb4 d0 d9 d10 d12
    cases b4
    · go_wp2_with fail
      go_ret
      exact ⟨_, rfl, H4.out⟩
    go_wp2_with fail
    all_goals first
      | (go_ret; exact ⟨_, rfl, H4.out⟩)
      | (refine (keys_any v.fields va vc _ B N hN hfs (Nat.le_trans hB H4.out.size) (HH.out.atFields.below (H4.out.mono hB))).mono ?_
         rintro e w5 ⟨k5, rfl, hb5⟩
         have H5 := Lib.hid (belowThen H4.out hb5)
         clear hb5
         go_wp2_with fail
         go_ret
         exact ⟨_, rfl, H5.out⟩)
end Go.Proofs.YtmjfggadehkbjaaGreatDoor

/- The reference's validity of values, to its end: Kids gives the values in a value; look and Check return, and write nothing that was there. -/
namespace Go.Proofs.YtmjfggadehkbjaaGreatDoor
open Go.RowKit

def kidsD (v : ValD) : List ValD := if v.kind = 7 then v.fields.map (·.2) else v.list
/-- A slice of values. -/
def SomeVals (N : Nat) (l : List ValD) (w : World) (e : Ending) (w' : World) : Prop := ∃ (a : Option Addr) (c : Nat), e = .returned (.slice a l.length c) ∧ ValsAt w' w'.heap.size N l a ∧ Below w.heap.size w w'
theorem infoV : ∃ z : Array Value, z.size = 13 ∧ (Tryz.prog.info? 30).map (fun i => (i.zero, i.size, i.bytes)) = some (some (.agg z), 13, 168) :=
  ⟨#[.int .i64 0, .bool false, .bool false, .string ⟨#[]⟩, .int .i64 0, .int .i64 0, .int .i64 0, .int .i64 0, .int .i64 0, .string ⟨#[]⟩, .slice none 0 0, .slice none 0 0, .slice none 0 0], rfl, by kernel_rfl⟩

/-- The values that lie in an owned row. -/
theorem valsAt_own {w : World} {base N B : Nat} {v : Value} {t : TypeId} {n : Nat} {cs : List Value} {l : List ValD} (h : w.ownsRow base t 13 v n cs) (hn : l.length = n) (hB : w.heap.size ≤ B)
    (hl : ∀ i (hi : i < l.length), ValD.At w B N l[i] ((cs.drop (i * 13)).take 13)) : ∃ a c, v = .slice a l.length c ∧ ValsAt w B N l a := by
  obtain ⟨hlen, h2⟩ := h
  rcases h2 with ⟨rfl, rfl⟩ | ⟨g, cap, cur, rfl, hg, hh, hc, hm, hcs, htake⟩
  · have : l = [] := List.length_eq_zero_iff.1 hn
    subst this
    exact ⟨none, 0, rfl, trivial⟩
  · refine ⟨some ⟨g, 0, none⟩, cap, by rw [hn], ?_⟩
    have hgl : g < w.heap.size := (Array.getElem?_eq_some_iff.1 hh).1
    refine ValsAt_of' (Nat.lt_of_lt_of_le hgl hB) l 0 fun i hi => ⟨_, ?_, hl i hi⟩
    intro j hj
    have hj13 : j < 13 := by simp at hj; omega
    have hi' : i * 13 + j < n * 13 := by
      have : i + 1 ≤ n := by omega
      have := Nat.mul_le_mul_right 13 this
      omega
    have e : w.cell? ⟨g, 0 + i * 13 + j, none⟩ = cur[0 + i * 13 + j]? := by simp [World.cell?, hh]
    rw [e, List.getElem?_take, if_pos hj13, List.getElem?_drop, ← htake, List.getElem?_take, if_pos hi', Nat.zero_add]
    simp

theorem addr_add' (b o j : Nat) : (⟨b, o, none⟩ : Addr).add j = ⟨b, o + j, none⟩ := by unfold Addr.add; split <;> simp_all
theorem ValD.At.oneCell {w : World} {B N : Nat} {v : ValD} {cs : List Value} (h : ValD.At w B N v cs) : ∀ u ∈ cs, u.oneCell' = true := by
  obtain ⟨ya, la, va, yc, lc, vc, rfl, _⟩ := h.row
  intro u hu
  simp [ValD.row] at hu
  rcases hu with rfl | rfl | rfl | rfl | rfl | rfl | rfl | rfl | rfl | rfl | rfl | rfl | rfl <;> rfl

theorem drop_take_append {xs ys : List Value} {n i : Nat} (hx : xs.length = n * 13) (hy : ys.length = 13) (hi : i < n + 1) :
    ((xs ++ ys).drop (i * 13)).take 13 = if i < n then (xs.drop (i * 13)).take 13 else ys := by
  split
  · rename_i h
    have h1 : i * 13 + 13 ≤ xs.length := by
      have := Nat.mul_le_mul_right 13 (show i + 1 ≤ n by omega)
      omega
    rw [List.drop_append_of_le_length (by omega), List.take_append_of_le_length (by simp; omega)]
  · rename_i h
    obtain rfl : i = n := by omega
    rw [← hx, List.drop_left, List.take_of_length_le (by omega)]

theorem fold_zip : ∀ (cs : List Value) (n : Nat) (Z : Array Value), Z.size = n + cs.length → List.foldl (fun (a : Array Value) (x : Value × Nat) => a.setIfInBounds x.2 x.1) Z (cs.zipIdx n) = (Z.toList.take n ++ cs).toArray
  | [], n, Z, h => by
    have : Z.toList.take n = Z.toList := List.take_of_length_le (by simpa using Nat.le_of_eq h)
    simp [this]
  | c :: cs, n, Z, h => by
    have hn : n < Z.size := by simp at h; omega
    rw [List.zipIdx_cons, List.foldl_cons, fold_zip cs (n + 1) _ (by simp at h ⊢; omega)]
    congr 1
    have : (Z.setIfInBounds n c).toList.take (n + 1) = Z.toList.take n ++ [c] := by
      have hl : n < (Z.setIfInBounds n c).toList.length := by simpa using hn
      rw [List.take_succ_eq_append_getElem hl]
      congr 1
      · rw [Array.toList_setIfInBounds, List.take_set_of_le (Nat.le_refl _)]
      · simp
    rw [this, List.append_assoc]
    rfl
theorem fold_zip0 (cs : List Value) (Z : Array Value) (h : Z.size = cs.length) : List.foldl (fun (a : Array Value) (x : Value × Nat) => a.setIfInBounds x.2 x.1) Z cs.zipIdx = cs.toArray := by
  have := fold_zip cs 0 Z (by omega)
  simpa using this

theorem kids_list (v : ValD) (w : World) (B N : Nat) (cs : List Value) (hB : B ≤ w.heap.size) (hk : (v.kind == 7) = false) (hv : ValD.At w B N v cs) :
    Calls Tryz.prog 87 #[.agg cs.toArray] w (SomeVals N (kidsD v) w) := by
  obtain ⟨ya, la, va, yc, lc, vc, hh⟩ := hv.has
  have c0 := hh.kind
  have c11 := hh.list
  have e : kidsD v = v.list := by
    have : ¬ v.kind = 7 := by simpa using hk
    simp [kidsD, this]
  rw [e]
  have HF := Lib.hid (show ValsAt (w.alloc (.cells cs.toArray 30)) (w.alloc (.cells cs.toArray 30)).heap.size N v.list la from ((hh.atList.below ((belowBox w _).mono hB)).mono (by rw [World.size_alloc]; omega)))
  clear hh hv e
  go_enter Tryz.func87, Tryz.ntmps87
  go_wp2_with fail
  go_ret
  exact ⟨la, lc, rfl, HF.out, belowBox w _⟩

set_option maxRecDepth 100000 in
set_option maxHeartbeats 1600000 in
theorem kids_map (v : ValD) (w : World) (B N : Nat) (cs : List Value) (hN : N ≤ 4294967296) (hB : B ≤ w.heap.size) (hk : v.kind = 7) (hv : ValD.At w B N v cs) :
    Calls Tryz.prog 87 #[.agg cs.toArray] w (SomeVals N (kidsD v) w) := by
  obtain ⟨z0, hz0s, hinfo⟩ := infoV
  obtain ⟨i0, hi, hz0, hz1, hz2⟩ := info_parts hinfo
  obtain ⟨ya, la, va, yc, lc, vc, hh⟩ := hv.has
  have c0 := hh.kind
  rw [hk] at c0
  have c12 := hh.fields
  have hfl : v.fields.length ≤ N := hh.own.2.2.2.2.2.2.2.2.2.2
  have HH := Lib.hid hh
  have e : kidsD v = v.fields.map (·.2) := by simp [kidsD, hk]
  rw [e]
  have HI := Lib.hid hi
  have HZ0 := Lib.hid hz0
  have HZ1 := Lib.hid hz1
  have HZ2 := Lib.hid hz2
  have HZS := Lib.hid hz0s
  clear hh hv e hk hi hz0 hz1 hz2 hz0s
  go_enter Tryz.func87, Tryz.ntmps87
  go_wp2_with fail
  go_simp
  go_loopw [3, 4] (fun s i wr => ∃ (k : Nat) (xs : List Value), k ≤ v.fields.length ∧ i = .int .i64 k ∧ wr.ownsRow (w.heap.size + 1) 30 13 s k xs ∧ (∀ j (hj : j < v.fields.length), j < k → ValD.At w B N v.fields[j].2 ((xs.drop (j * 13)).take 13)) ∧
      wr.cell? ⟨w.heap.size, 12, none⟩ = some (.slice va v.fields.length vc) ∧ w.heap.size < wr.heap.size ∧ Below w.heap.size w wr) (fun _ i _ => v.fields.length - (intOf i).toNat)
  case atStart => exact ⟨0, [], by omega, rfl, World.ownsRow_nil _ _ _ _, fun j _ hj => absurd hj (by omega), by go_simp, by simp, belowBox w _⟩
  case round =>
    obtain ⟨k, xs, hkl, rfl, hown, hat, hc12, hsz, hbel⟩ := hrel
    have HB := Lib.hid hbel
    have HA := Lib.hid hat
    have HO := Lib.hid hown
    clear hbel hat hown
    by_cases hlt : k < v.fields.length
    · obtain ⟨b, o, rfl, hb, hget⟩ := HH.out.atFields.get (by intro h; simp [h] at hlt)
      obtain ⟨cs1, _, h1, h2⟩ := hget k hlt
      have HR := Lib.hid (h1.tail.below (HB.out.mono hB) hb).range
      have hl := Lib.hid (show (Tryz.prog.info? 30).map (·.size) = some cs1.length by rw [h2.len]; exact sizeV)
      have HV1 := Lib.hid h2
      have hlen1 := h2.len
      have hfz := fold_zip0 cs1 #[.int .i64 0, .bool false, .bool false, .string ⟨#[]⟩, .int .i64 0, .int .i64 0, .int .i64 0, .int .i64 0, .int .i64 0, .string ⟨#[]⟩, .slice none 0 0, .slice none 0 0, .slice none 0 0] h2.len.symm
      clear h1 h2 hget
      go_wp2_with (first
        | (at_builtin; refine wpList_append_own _ rfl _ _ 27 rfl (w.heap.size + 1) 30 i0 (.agg z0) 13 168 Tryz.underlying27 HI.out HZ0.out HZ1.out HZ2.out HZS.out (by decide) _ _ _ rfl (HO.out.alloc _) ⟨wr.heap.size, 0, none⟩ 1 1 cs1 rfl HV1.out.len ?c1 ?c2 ?c3 ?c4 ?c5 ?_)
        | (refine wpList_load_mid rfl 30 _ rfl b (o + k * 14 + 1) rfl cs1 _ HR.out Tryz.underlying30 rfl hl.out ?_))
      case c1 =>
        intro j u hj
        rw [addr_add', World.cell?_alloc_new]
        simpa using hj
      case c2 => exact HV1.out.oneCell
      case c3 => unfold maxLen; omega
      case c4 => omega
      case c5 => rw [World.size_alloc]; omega
      intro v' w1 hown1 hgrow _
      have hgrow' := hgrow
      have HB1 : Hid (Below w.heap.size w w1) := (HB.out.alloc HB.out.size _).grown hgrow (by rw [World.size_alloc]; omega) (fun q hq => by have := (HO.out.lt q hq).1; omega)
      have d12 : w1.cell? ⟨w.heap.size, 12, none⟩ = some (.slice (some ⟨b, o, none⟩) v.fields.length vc) := by
        refine hgrow.cell ?_ ?_
        · rw [World.cell?_alloc_lt _ _ _ hsz]; exact hc12
        · intro hq
          have := (HO.out.lt w.heap.size hq.symm).1
          omega
      have hsz1 : w.heap.size < w1.heap.size := by
        have := hgrow.size
        rw [World.size_alloc] at this
        omega
      have HO1 := Lib.hid hown1
      clear hgrow hgrow' hown1 hc12 hsz
      go_wp2
      go_roundw
      case rel =>
        refine ⟨k + 1, xs ++ cs1, by omega, by go_num, HO1.out, fun j hj hjk => ?_, d12, hsz1, HB1.out⟩
        rw [drop_take_append HO.out.1 HV1.out.len hjk]
        split
        · exact HA.out j hj ‹_›
        · obtain rfl : j = k := by omega
          exact HV1.out
      case measure => simp [intOf]; omega
    · obtain rfl : k = v.fields.length := by omega
      have HE := Lib.hid (valsAt_own (N := N) (B := wr.heap.size) (l := v.fields.map (·.2)) HO.out (by simp) (Nat.le_refl _) (fun i hi => by
        have hi' : i < v.fields.length := by simpa using hi
        have := HA.out i hi' hi'
        simp only [List.getElem_map]
        exact ((this.below (HB.out.mono hB)).mono (Nat.le_trans hB HB.out.size))))
      go_wp2_with fail
      go_ret
      obtain ⟨a, c, e1, e2⟩ := HE.out
      exact ⟨a, c, by rw [← e1]; rfl, e2, HB.out⟩
end Go.Proofs.YtmjfggadehkbjaaGreatDoor

/- The reference's validity of values, to its end: look and Check return, and write nothing that was there. -/
namespace Go.Proofs.YtmjfggadehkbjaaGreatDoor
open Go.RowKit

theorem kids_any (v : ValD) (w : World) (B N : Nat) (cs : List Value) (hN : N ≤ 4294967296) (hB : B ≤ w.heap.size) (hv : ValD.At w B N v cs) :
    Calls Tryz.prog 87 #[.agg cs.toArray] w (SomeVals N (kidsD v) w) := by
  by_cases hk : v.kind = 7
  · exact kids_map v w B N cs hN hB hk hv
  · exact kids_list v w B N cs hB (by simpa using hk) hv
theorem kids_len {w : World} {B N : Nat} {v : ValD} {cs : List Value} (hv : ValD.At w B N v cs) : (kidsD v).length ≤ N := by
  obtain ⟨ya, la, va, yc, lc, vc, hh⟩ := hv.has
  unfold kidsD
  split
  · simpa using hh.own.2.2.2.2.2.2.2.2.2.2
  · exact hh.own.2.2.2.2.2.2.2.2.2.1

def SomePair (w : World) (e : Ending) (w' : World) : Prop := ∃ (x y : Int), e = .returned (.tuple #[.int .i64 x, .int .i64 y]) ∧ Below w.heap.size w w'

set_option maxRecDepth 100000 in
set_option maxHeartbeats 1600000 in
theorem look_any (m : Nat) : ∀ (v : ValD) (w : World) (B N : Nat) (cs : List Value) (depth : Nat) (seen : Int), depth + m = 49 → N ≤ 4294967296 → B ≤ w.heap.size → ValD.At w B N v cs →
    Calls Tryz.prog 39 #[.agg cs.toArray, .int .i64 depth, .int .i64 seen] w (SomePair w) := by
  induction m with
  | zero =>
    intro v w B N cs depth seen hd hN hB hv
    clear hv
    go_enter Tryz.func39, Tryz.ntmps39
    go_wp2_with fail
    go_ret2
    exact ⟨_, _, rfl, belowBox w _⟩
  | succ m ih =>
    intro v w B N cs depth seen hd hN hB hv
    have IH := Lib.hid ih
    have hd' : depth ≤ 48 := by omega
    have HD := Lib.hid hd
    have HV := Lib.hid hv
    have hl := Lib.hid (show (Tryz.prog.info? 30).map (·.size) = some cs.length by rw [hv.len]; exact sizeV)
    have H0 := Lib.hid (show Below w.heap.size w (w.alloc (.cells cs.toArray 30)) from belowBox w _)
    clear ih hv hd
    by_cases hs : 65536 ≤ seen
    · go_enter Tryz.func39, Tryz.ntmps39
      go_wp2_with fail
      go_ret2
      exact ⟨_, _, rfl, H0.out⟩
    go_enter Tryz.func39, Tryz.ntmps39
    go_wp2_with (refine wpList_load_mid rfl 30 _ rfl w.heap.size 0 rfl cs _ (box_at w cs 30).range Tryz.underlying30 rfl hl.out ?_)
    refine (one_any v _ B N cs hN (Nat.le_trans hB H0.out.size) (HV.out.below (H0.out.mono hB))).mono ?_
    rintro e w1 ⟨k1, rfl, hb1⟩
    have hs0 : w.heap.size < (w.alloc (.cells cs.toArray 30)).heap.size := by rw [World.size_alloc]; omega
    have R1 := Lib.hid ((box_at w cs 30).then hb1 hs0)
    have H1 := Lib.hid (belowThen H0.out hb1)
    have hs1 : w.heap.size < w1.heap.size := Nat.lt_of_lt_of_le hs0 hb1.size
    clear hb1 H0 hs0
    by_cases hk1 : k1 = 0
    · subst hk1
      go_wp2_with (refine wpList_load_mid rfl 30 _ rfl w.heap.size 0 rfl cs _ R1.out.range Tryz.underlying30 rfl hl.out ?_)
      refine (kids_any v _ B N cs hN (Nat.le_trans hB H1.out.size) (HV.out.below (H1.out.mono hB))).mono ?_
      rintro e w2 ⟨a, c, rfl, hvs, hb2⟩
      have H2 := Lib.hid (belowThen H1.out hb2)
      have HS := Lib.hid hvs
      have hkl := kids_len HV.out
      clear hb2 hvs R1 H1 hs1
      go_wp2_with fail
      go_simp
      go_loopw [2, 10, 11] (fun s i _ wr => ∃ (x : Int) (k : Nat), k ≤ (kidsD v).length ∧ s = .int .i64 x ∧ i = .int .i64 k ∧ Below w2.heap.size w2 wr) (fun _ i _ _ => (kidsD v).length - (intOf i).toNat)
      case atStart => exact ⟨_, 0, by omega, rfl, rfl, Below.refl _ _⟩
      case round =>
        obtain ⟨x, k, hk, rfl, rfl, hbel⟩ := hrel
        have HB := Lib.hid hbel
        clear hbel
        by_cases hlt : k < (kidsD v).length
        · obtain ⟨b, o, rfl, hb, hget⟩ := HS.out.get (by intro h; simp [h] at hlt)
          obtain ⟨cs1, h1, h2⟩ := hget k hlt
          have HR := Lib.hid (h1.below HB.out hb).range
          have H4 := Lib.hid (h2.below HB.out)
          have hl1 := Lib.hid (show (Tryz.prog.info? 30).map (·.size) = some cs1.length by rw [h2.len]; exact sizeV)
          clear h1 h2 hget
          go_wp2_with (refine wpList_load_mid rfl 30 _ rfl b (o + k * 13) rfl cs1 _ HR.out Tryz.underlying30 rfl hl1.out ?_)
          refine (IH.out _ _ w2.heap.size N _ (depth + 1) x (by have := HD.out; omega) hN HB.out.size H4.out).mono ?_
          rintro e1 w3 ⟨y, z, rfl, hb3⟩
          have HB3 := Lib.hid (belowThen HB.out hb3)
          clear hb3
          by_cases hz : z = 0
          · subst hz
            go_wp2_with fail
            go_roundw
            case rel => exact ⟨y, k + 1, by omega, rfl, by go_num, HB3.out⟩
            case measure => simp [intOf]; omega
          · have hz' : (z == 0) = false := by simpa using hz
            clear hz
            go_wp2_with fail
            go_ret2
            exact ⟨_, _, rfl, belowThen H2.out HB3.out⟩
        · go_wp2_with fail
          go_ret2
          exact ⟨_, _, rfl, belowThen H2.out HB.out⟩
    · have hk1' : (k1 == 0) = false := by simpa using hk1
      clear hk1
      go_wp2_with fail
      go_ret2
      exact ⟨_, _, rfl, H1.out⟩

theorem check07_any (v : ValD) (w : World) (B N : Nat) (cs : List Value) (hN : N ≤ 4294967296) (hB : B ≤ w.heap.size) (hv : ValD.At w B N v cs) :
    Calls Tryz.prog 14 #[.agg cs.toArray] w (SomeInt w) := by
  have HV := Lib.hid hv
  have hl := Lib.hid (show (Tryz.prog.info? 30).map (·.size) = some cs.length by rw [hv.len]; exact sizeV)
  have H0 := Lib.hid (show Below w.heap.size w (w.alloc (.cells cs.toArray 30)) from belowBox w _)
  clear hv
  go_enter Tryz.func14, Tryz.ntmps14
  go_wp2_with (refine wpList_load_mid rfl 30 _ rfl w.heap.size 0 rfl cs _ (box_at w cs 30).range Tryz.underlying30 rfl hl.out ?_)
  refine (look_any 48 v _ B N cs 1 0 (by omega) hN (Nat.le_trans hB H0.out.size) (HV.out.below (H0.out.mono hB))).mono ?_
  rintro e w1 ⟨x, y, rfl, hb1⟩
  have H1 := Lib.hid (belowThen H0.out hb1)
  clear hb1
  go_wp2_with fail
  go_ret
  exact ⟨_, rfl, H1.out⟩
end Go.Proofs.YtmjfggadehkbjaaGreatDoor
