/- The name of an instruction (qcode.name, datakitref41.named): what is wrong with it. -/
import Derived.Test.YtnoddigkafldfaaDoorZer41
import Derived.Test.YtnoddigkafldfaaDoorCharV
import Derived.Test.YtnoddigkafldfaaDoorBad35d
import Derived.Test.YtnoddigkafldfaaDoorKeyx
namespace Go.Proofs.YtnoddigkafldfaaDoor
open Go.RowKit

theorem contains_lits (L : List (List UInt8)) (s : ByteArray) : Lib.containsS (L.map fun l => ⟨l.toArray⟩) s = L.contains s.toList := by
  rw [Bool.eq_iff_iff, Lib.containsS_iff, List.contains_iff_mem]
  constructor
  · intro h
    obtain ⟨l, hl, rfl⟩ := List.mem_map.1 h
    rw [ByteArray.toList_eq]
    exact hl
  · intro h
    refine List.mem_map.2 ⟨_, h, ?_⟩
    rw [ByteArray.toList_eq]
theorem utf_below {w w' : World} (h : Lib.Utf8Tabs 0 1 w) (hb : Below w.heap.size w w') : Lib.Utf8Tabs 0 1 w' := by
  refine ⟨fun c hc => ?_, fun i hi => ?_⟩
  · have h1 := h.1 c hc
    rw [hb.cell (World.block_lt_of_cell? w _ h1)]; exact h1
  · have h1 := h.2 i hi
    exact ⟨by rw [hb.cell (World.block_lt_of_cell? w _ h1.1)]; exact h1.1, by rw [hb.cell (World.block_lt_of_cell? w _ h1.2)]; exact h1.2⟩
def plusZ : List ByteArray := plusL.map fun l => ⟨l.toArray⟩
def compZ : List ByteArray := compL.map fun l => ⟨l.toArray⟩
theorem int_ret {k k' : Int} {w w' : World} (h : k = k') (hb : Below w.heap.size w w') : IntB k w (.returned (.int .i64 k')) w' := by subst h; exact ⟨rfl, hb⟩

set_option maxRecDepth 100000 in
set_option maxHeartbeats 6400000 in
theorem name_prog (x : InsD) (w : World) (B N : Nat) (cs : List Value) (hN : N ≤ 1099511627776) (hT : Lib.Utf8Tabs 0 1 w) (hA : TabAt w) (hx : InsD.At w B N x cs) :
    Calls Tryd.prog 16 #[.agg cs.toArray] w (IntB (nameE x) w) := by
  obtain ⟨vs, hh⟩ := hx.has
  have z0 := hh.op
  have z1 := hh.a
  have z3 := hh.name
  have hsz : x.name.size ≤ 1099511627776 := Nat.le_trans hh.nameN hN
  have R0 := Lib.hid (box_at w cs 40)
  have H0 := Lib.hid (belowBox w (.cells cs.toArray 40))
  have HS := Lib.hid (World.size_alloc w (.cells cs.toArray 40))
  have HT := Lib.hid hT
  have HA := Lib.hid hA
  clear hh hx hT hA
  by_cases h7 : x.op = 7
  · rw [h7] at z0
    obtain ⟨v, hv⟩ : ∃ v, validS x.name = v := ⟨_, rfl⟩
    have HR := Lib.hid (show nameE x = if v = true ∧ x.name.size ≤ 1024 then 0 else 16 by unfold nameE; rw [if_pos h7, hv])
    have HV := Lib.hid hv
    clear h7 hv
    go_enter Tryd.func16, Tryd.ntmps16
    go_wp2_with fail
    refine (Tryd.utf8_ValidString x.name _ (by omega) (utf_below HT.out H0.out)).mono ?_
    rintro e w1 ⟨rfl, hb⟩
    rw [validD_eq, HV.out]
    have H1 := Lib.hid (belowThen H0.out hb)
    have c3 := (R0.out.then hb (by rw [HS.out]; omega)).get0 z3
    clear hb
    cases v with
    | false =>
      go_wp2_with fail
      go_ret
      exact int_ret HR.out H1.out
    | true =>
      by_cases hs : x.name.size ≤ 1024
      · have hs2 : (x.name.size : Int) ≤ 1024 := by omega
        go_wp2_with fail
        go_ret
        exact int_ret (by rw [HR.out, if_pos ⟨trivial, hs⟩]) H1.out
      · have hs2 : (1024 : Int) < (x.name.size : Int) := by omega
        have hs3 : decide ((x.name.size : Int) ≤ 1024) = false := by simp; omega
        go_wp2_with fail
        go_ret
        exact int_ret (by rw [HR.out, if_neg (by omega)]) H1.out
  by_cases h11 : x.op = 11
  · rw [h11] at z0
    obtain ⟨v, hv⟩ : ∃ v, plusL.contains x.name.toList = v := ⟨_, rfl⟩
    have HR := Lib.hid (show nameE x = if v = true then 0 else 16 by unfold nameE; rw [if_neg h7, if_pos h11, hv])
    have HV := Lib.hid (show Lib.containsS (plusZ.take 5) x.name = v by rw [← hv]; exact contains_lits plusL x.name)
    have HC := Lib.hid (show ∀ j, j < plusZ.length → ((w.alloc (.cells cs.toArray 40)).alloc (.cells #[.string ⟨#[43]⟩, .string ⟨#[45]⟩, .string ⟨#[42]⟩, .string ⟨#[47]⟩, .string ⟨#[37]⟩] 9)).cell? ⟨w.heap.size + 1, 0 + j, none⟩ = some (.string (plusZ.getD j ByteArray.empty)) from fun j hj => by
      have h : CellsAt _ (w.alloc (.cells cs.toArray 40)).heap.size 0 (plusZ.map Value.string) := box_at (w.alloc (.cells cs.toArray 40)) (plusZ.map Value.string) 9
      rw [HS.out] at h
      have h2 := h j (by rw [List.length_map]; exact hj)
      rw [List.getElem?_map, List.getElem?_eq_getElem hj] at h2
      rw [List.getD_eq_getElem?_getD, List.getElem?_eq_getElem hj]
      exact h2)
    have H1 := Lib.hid (belowThen H0.out (belowBox (w.alloc (.cells cs.toArray 40)) (.cells #[.string ⟨#[43]⟩, .string ⟨#[45]⟩, .string ⟨#[42]⟩, .string ⟨#[47]⟩, .string ⟨#[37]⟩] 9)))
    clear h7 h11 hv
    go_enter Tryd.func16, Tryd.ntmps16
    go_wp2_with fail
    refine (Tryd.slices_Contains_string (w.heap.size + 1) 0 5 5 plusZ x.name _ (by decide) (by decide) HC.out).mono ?_
    rintro e w1 ⟨rfl, rfl⟩
    rw [HV.out]
    cases v
    all_goals
      go_wp2_with fail
      go_ret
      exact int_ret HR.out H1.out
  by_cases h12 : x.op = 12
  · rw [h12] at z0
    obtain ⟨v, hv⟩ : ∃ v, compL.contains x.name.toList = v := ⟨_, rfl⟩
    have HR := Lib.hid (show nameE x = if v = true then 0 else 16 by unfold nameE; rw [if_neg h7, if_neg h11, if_pos h12, hv])
    have HV := Lib.hid (show Lib.containsS (compZ.take 6) x.name = v by rw [← hv]; exact contains_lits compL x.name)
    have HC := Lib.hid (show ∀ j, j < compZ.length → ((w.alloc (.cells cs.toArray 40)).alloc (.cells #[.string ⟨#[61, 61]⟩, .string ⟨#[33, 61]⟩, .string ⟨#[60]⟩, .string ⟨#[60, 61]⟩, .string ⟨#[62]⟩, .string ⟨#[62, 61]⟩] 9)).cell? ⟨w.heap.size + 1, 0 + j, none⟩ = some (.string (compZ.getD j ByteArray.empty)) from fun j hj => by
      have h : CellsAt _ (w.alloc (.cells cs.toArray 40)).heap.size 0 (compZ.map Value.string) := box_at (w.alloc (.cells cs.toArray 40)) (compZ.map Value.string) 9
      rw [HS.out] at h
      have h2 := h j (by rw [List.length_map]; exact hj)
      rw [List.getElem?_map, List.getElem?_eq_getElem hj] at h2
      rw [List.getD_eq_getElem?_getD, List.getElem?_eq_getElem hj]
      exact h2)
    have H1 := Lib.hid (belowThen H0.out (belowBox (w.alloc (.cells cs.toArray 40)) (.cells #[.string ⟨#[61, 61]⟩, .string ⟨#[33, 61]⟩, .string ⟨#[60]⟩, .string ⟨#[60, 61]⟩, .string ⟨#[62]⟩, .string ⟨#[62, 61]⟩] 9)))
    clear h7 h11 h12 hv
    go_enter Tryd.func16, Tryd.ntmps16
    go_wp2_with fail
    refine (Tryd.slices_Contains_string (w.heap.size + 1) 0 6 6 compZ x.name _ (by decide) (by decide) HC.out).mono ?_
    rintro e w1 ⟨rfl, rfl⟩
    rw [HV.out]
    cases v
    all_goals
      go_wp2_with fail
      go_ret
      exact int_ret HR.out H1.out
  by_cases h13 : x.op = 13
  · rw [h13] at z0
    obtain ⟨b, hb⟩ : ∃ b, ariB x.name.toList = b := ⟨_, rfl⟩
    obtain ⟨n, hn⟩ : ∃ n, ariN x.name.toList = n := ⟨_, rfl⟩
    have HR := Lib.hid (show nameE x = if b = true then (if n = x.a then 0 else 17) else 16 by unfold nameE; rw [if_neg h7, if_neg h11, if_neg h12, if_pos h13, hb, hn])
    have HB := Lib.hid hb
    have HNN := Lib.hid hn
    clear h7 h11 h12 h13 hb hn
    go_enter Tryd.func16, Tryd.ntmps16
    go_wp2_with fail
    refine (arity_prog x.name _ (HA.out.below H0.out)).mono ?_
    rintro e w1 ⟨rfl, hb1⟩
    rw [HB.out, HNN.out]
    have H1 := Lib.hid (belowThen H0.out hb1)
    have c1 := (R0.out.then hb1 (by rw [HS.out]; omega)).get0 z1
    clear hb1
    cases b with
    | false =>
      go_wp2_with fail
      go_ret
      exact int_ret HR.out H1.out
    | true =>
      by_cases hq : n = x.a
      · have q1 : (n == x.a) = true := by simpa using hq
        have q2 : (n != x.a) = false := by simpa using hq
        have HQ := Lib.hid hq
        clear hq
        go_wp2_with fail
        go_ret
        exact int_ret (by rw [HR.out, if_pos trivial, if_pos HQ.out]) H1.out
      · have q1 : (n == x.a) = false := by simpa using hq
        have q2 : (n != x.a) = true := by simpa using hq
        have HQ := Lib.hid hq
        clear hq
        go_wp2_with fail
        go_ret
        exact int_ret (by rw [HR.out, if_pos trivial, if_neg HQ.out]) H1.out
  · obtain ⟨o, ho⟩ : ∃ o, x.op = o := ⟨_, rfl⟩
    have HR := Lib.hid (show nameE x = 0 by unfold nameE; rw [if_neg h7, if_neg h11, if_neg h12, if_neg h13])
    rw [ho] at z0 h7 h11 h12 h13
    have q1 : (o == 7) = false := by simpa using h7
    have q2 : (o == 11) = false := by simpa using h11
    have q3 : (o == 12) = false := by simpa using h12
    have q4 : (o == 13) = false := by simpa using h13
    clear h7 h11 h12 h13 ho
    go_enter Tryd.func16, Tryd.ntmps16
    go_wp2_with fail
    go_ret
    exact int_ret HR.out H0.out

/-- Is the name one that the operator may have? -/
def namB (x : InsD) : Bool :=
  if x.op = 7 then (decide (x.name.size ≤ 1024) && validS x.name) else if x.op = 11 then plusL.contains x.name.toList else if x.op = 12 then compL.contains x.name.toList else if x.op = 13 then ariB x.name.toList else true
theorem nameE_ref (x : InsD) : nameE x = if namB x = false then 16 else if x.op = 13 ∧ ariN x.name.toList ≠ x.a then 17 else 0 := by
  unfold nameE namB
  by_cases h7 : x.op = 7
  · rw [if_pos h7, if_pos h7]
    cases validS x.name <;> by_cases hs : x.name.size ≤ 1024 <;> simp [hs, h7]
  rw [if_neg h7, if_neg h7]
  by_cases h11 : x.op = 11
  · rw [if_pos h11, if_pos h11]
    cases plusL.contains x.name.toList <;> simp [h11]
  rw [if_neg h11, if_neg h11]
  by_cases h12 : x.op = 12
  · rw [if_pos h12, if_pos h12]
    cases compL.contains x.name.toList <;> simp [h12]
  rw [if_neg h12, if_neg h12]
  by_cases h13 : x.op = 13
  · rw [if_pos h13, if_pos h13]
    cases ariB x.name.toList <;> by_cases hq : ariN x.name.toList = x.a <;> simp [hq, h13]
  · rw [if_neg h13, if_neg h13]
    simp [h13]
end Go.Proofs.YtnoddigkafldfaaDoor
