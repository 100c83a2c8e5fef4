/- decimal.ToInt and datakitref02.ToInt: both compute the same of a valid decimal. -/
import Derived.Test.YtmjfggadehkbjaaGreatDoorGD
namespace Go.Proofs.YtmjfggadehkbjaaGreatDoor
open Go.RowKit

def maxN : List UInt8 := [57, 50, 50, 51, 51, 55, 50, 48, 51, 54, 56, 53, 52, 55, 55, 53, 56, 48, 56]
def decT (d : DecD) : ByteArray := d.digits ++ zerosS d.exp.toNat
def toI (d : DecD) : Int × Int :=
  if 19 < d.digits.size + d.exp then (0, 2)
  else if d.neg = true ∧ (decT d).toList = maxN then (-9223372036854775808, 0)
  else (if d.neg then -(toIntF (decT d)).1 else (toIntF (decT d)).1, (toIntF (decT d)).2)
theorem toIntF_cases (s : ByteArray) : (∃ n : Nat, toIntF s = ((n : Int), 0) ∧ n ≤ 9223372036854775807 ∧ n = dv s.data.toList) ∨ (toIntF s = (0, 2) ∧ 9223372036854775807 < dv s.data.toList) := by
  unfold toIntF
  by_cases h : dv s.data.toList ≤ 9223372036854775807
  · exact .inl ⟨_, by rw [if_pos h], h, rfl⟩
  · exact .inr ⟨by rw [if_neg h], by omega⟩
theorem zerosS_size (n : Nat) : (zerosS n).size = n := by unfold zerosS; rw [strOfNums_size, List.length_replicate]
theorem byteI_append (a b : ByteArray) (i : Nat) : byteI (a ++ b) i = if i < a.size then byteI a i else byteI b (i - a.size) := by
  unfold byteI
  by_cases h : i < a.size
  · rw [if_pos h, dif_pos h, dif_pos (by rw [ByteArray.size_append]; omega), ByteArray.getElem_append_left h]
  · rw [if_neg h]
    by_cases h2 : i - a.size < b.size
    · rw [dif_pos h2, dif_pos (by rw [ByteArray.size_append]; omega), ByteArray.getElem_append_right (by omega)]
    · rw [dif_neg h2, dif_neg (by rw [ByteArray.size_append]; omega)]
theorem byteI_zeros (n i : Nat) (h : i < n) : byteI (zerosS n) i = 48 := by
  rw [← byteI_eq (by rw [zerosS_size]; exact h)]
  have : (zerosS n)[i]'(by rw [zerosS_size]; exact h) = 48 := by
    unfold zerosS strOfNums
    show (List.map _ _).toArray[i]'_ = _
    simp
  rw [this]
  rfl
theorem decT_good {d : DecD} (hv : VDec d) (h0 : 0 ≤ d.exp) (h19 : d.digits.size + d.exp ≤ 19) : DigS (decT d) ∧ (decT d).size ≤ 19 ∧ ((decT d).size = 0 ∨ byteI (decT d) 0 ≠ 48) := by
  have hsz : (decT d).size = d.digits.size + d.exp.toNat := by unfold decT; rw [ByteArray.size_append, zerosS_size]
  refine ⟨fun i hi => ?_, by omega, ?_⟩
  · unfold decT
    rw [byteI_append]
    by_cases h : i < d.digits.size
    · rw [if_pos h]
      rcases hv with ⟨h1, _, _⟩ | ⟨_, _, hdg, _⟩
      · omega
      · exact hdg i h
    · rw [if_neg h, byteI_zeros _ _ (by omega)]
      omega
  · rcases hv with ⟨h1, _, he⟩ | ⟨hp, _, _, hf, _⟩
    · exact .inl (by rw [hsz, h1, he]; rfl)
    · refine .inr ?_
      unfold decT
      rw [byteI_append, if_pos hp]
      exact hf
theorem dv_maxN : dv maxN = 9223372036854775808 := by decide +kernel
theorem toList_data (s : ByteArray) : s.toList = s.data.toList := ByteArray.toList_eq _
theorem ret_2 {k l : IntKind} {a b c d : Int} (h : a = b) (g : c = d) : Ending.returned (.tuple #[.int k a, .int l c]) = .returned (.tuple #[.int k b, .int l d]) := by rw [h, g]
theorem box3 {w w2 : World} {x y z : Value} {t : TypeId} (hb : Below (w.alloc (.cells #[x, y, z] t)).drew.heap.size (w.alloc (.cells #[x, y, z] t)).drew w2) :
    w2.cell? ⟨w.heap.size, 0, none⟩ = some x ∧ w2.cell? ⟨w.heap.size, 1, none⟩ = some y ∧ w2.cell? ⟨w.heap.size, 2, none⟩ = some z ∧ Below w.heap.size w w2 := by
  have hb' : Below (w.alloc (.cells #[x, y, z] t)).heap.size (w.alloc (.cells #[x, y, z] t)) w2 := ⟨hb.os, hb.tape, hb.output, hb.size, hb.block⟩
  have hs : w.heap.size < (w.alloc (.cells #[x, y, z] t)).heap.size := by rw [World.size_alloc]; omega
  have hc := (box_at w [x, y, z] t).then hb' hs
  exact ⟨hc.get0 rfl, hc.get0 rfl, hc.get0 rfl, belowThen (belowBox w _) hb'⟩
def ToIR (d : DecD) (w : World) (e : Ending) (w' : World) : Prop := e = .returned (.tuple #[.int .i64 (toI d).1, .int .i64 (toI d).2]) ∧ Below w.heap.size w w'

def IntN (n k : Int) (w : World) (e : Ending) (w' : World) : Prop := e = .returned (.tuple #[.int .i64 n, .int .i64 k]) ∧ w = w'
/-- The ways that ToInt goes, of a number that is not too long. -/
theorem toI_ways {ng : Bool} {dg : ByteArray} {m : Nat} (hb : ¬ 19 < dg.size + (m : Int)) :
    (ng = true ∧ toI ⟨ng, dg, m⟩ = (-9223372036854775808, 0) ∧ (dg ++ zerosS m).toList = maxN ∧ toIntF (dg ++ zerosS m) = (0, 2)) ∨
    (ng = true ∧ ¬ (dg ++ zerosS m).toList = maxN ∧ ((∃ n : Nat, (n : Int) ≤ 9223372036854775807 ∧ toIntF (dg ++ zerosS m) = ((n : Int), 0) ∧ toI ⟨ng, dg, m⟩ = (-(n : Int), 0)) ∨ (toIntF (dg ++ zerosS m) = (0, 2) ∧ toI ⟨ng, dg, m⟩ = (0, 2)))) ∨
    (ng = false ∧ ((∃ n : Nat, (n : Int) ≤ 9223372036854775807 ∧ toIntF (dg ++ zerosS m) = ((n : Int), 0) ∧ toI ⟨ng, dg, m⟩ = ((n : Int), 0)) ∨ (toIntF (dg ++ zerosS m) = (0, 2) ∧ toI ⟨ng, dg, m⟩ = (0, 2)))) := by
  have e : decT ⟨ng, dg, m⟩ = dg ++ zerosS m := rfl
  unfold toI
  rw [if_neg hb, e]
  cases ng with
  | false =>
    refine .inr (.inr ⟨rfl, ?_⟩)
    rcases toIntF_cases (dg ++ zerosS m) with ⟨n, h1, h2, _⟩ | ⟨h1, _⟩
    · exact .inl ⟨n, by omega, h1, by rw [h1]; simp⟩
    · exact .inr ⟨h1, by rw [h1]; simp⟩
  | true =>
    by_cases hm : (dg ++ zerosS m).toList = maxN
    · refine .inl ⟨rfl, by rw [if_pos ⟨rfl, hm⟩], hm, ?_⟩
      rcases toIntF_cases (dg ++ zerosS m) with ⟨n, h1, h2, h3⟩ | ⟨h1, _⟩
      · rw [← toList_data, hm, dv_maxN] at h3
        omega
      · exact h1
    · refine .inr (.inl ⟨rfl, hm, ?_⟩)
      rw [if_neg (fun h => hm h.2)]
      rcases toIntF_cases (dg ++ zerosS m) with ⟨n, h1, h2, _⟩ | ⟨h1, _⟩
      · exact .inl ⟨n, by omega, h1, by rw [h1]; simp⟩
      · exact .inr ⟨h1, by rw [h1]; simp⟩
end Go.Proofs.YtmjfggadehkbjaaGreatDoor

/- decimal.ToInt: it computes what datakitref02.ToInt does, of a valid decimal. -/
namespace Go.Proofs.YtmjfggadehkbjaaGreatDoor
open Go.RowKit

def WhlR (b : Bool) (w : World) (e : Ending) (w' : World) : Prop := e = .returned (.bool b) ∧ Below w.heap.size w w'
theorem whole_prog (d : DecD) (b : Bool) (w : World) (hb : decide (0 ≤ d.exp) = b) : Calls Tryz.prog 30 #[.agg #[.bool d.neg, .string d.digits, .int .i64 d.exp]] w (WhlR b w) := by
  cases b
  · have h : d.exp < 0 := by simpa using hb
    clear hb
    go_enter Tryz.func30, Tryz.ntmps30
    go_wp2_with fail
    go_ret
    exact ⟨by first | rfl | (congr 2; simp; omega), Below.box _ _⟩
  · have h : 0 ≤ d.exp := by simpa using hb
    clear hb
    go_enter Tryz.func30, Tryz.ntmps30
    go_wp2_with fail
    go_ret
    exact ⟨by first | rfl | (congr 2; simp; omega), Below.box _ _⟩
theorem whole_ref (d : DecD) (b : Bool) (w : World) (hb : decide (0 ≤ d.exp) = b) : Calls Tryz.prog 36 #[.agg #[.bool d.neg, .string d.digits, .int .i64 d.exp]] w (WhlR b w) := by
  cases b
  · have h : d.exp < 0 := by simpa using hb
    clear hb
    go_enter Tryz.func36, Tryz.ntmps36
    go_wp2_with fail
    go_ret
    exact ⟨by first | rfl | (congr 2; simp; omega), Below.box _ _⟩
  · have h : 0 ≤ d.exp := by simpa using hb
    clear hb
    go_enter Tryz.func36, Tryz.ntmps36
    go_wp2_with fail
    go_ret
    exact ⟨by first | rfl | (congr 2; simp; omega), Below.box _ _⟩
theorem rep_ex (m : Nat) (w : World) (hm : m ≤ 400) : Calls Tryz.prog 68 #[.string ⟨#[48]⟩, .int .i64 m] w (NouR m w) := by
  refine (Tryz.strings_Repeat ⟨#[48]⟩ m w (by omega) (by first | omega | (show 1 * m ≤ _; omega))).mono ?_
  rintro e w' ⟨rfl, hb⟩
  exact ⟨by rw [← strOf_rep], hb⟩
theorem drew3 {w w2 : World} {b : Nat} {x y z : Value} (hc : CellsAt w b 0 [x, y, z]) (hlt : b < w.heap.size) (hb : Below w.drew.heap.size w.drew w2) :
    w2.cell? ⟨b, 0, none⟩ = some x ∧ w2.cell? ⟨b, 1, none⟩ = some y ∧ w2.cell? ⟨b, 2, none⟩ = some z ∧ Below w.heap.size w w2 := by
  have hb' : Below w.heap.size w w2 := ⟨hb.os, hb.tape, hb.output, hb.size, hb.block⟩
  have hc2 := hc.then hb' hlt
  exact ⟨hc2.get0 rfl, hc2.get0 rfl, hc2.get0 rfl, hb'⟩
/-- What stands of a boxed row of three behind the first call. -/
theorem box3c {w w1 : World} {x y z : Value} {t : TypeId} (hb : Below (w.alloc (.cells #[x, y, z] t)).heap.size (w.alloc (.cells #[x, y, z] t)) w1) : CellsAt w1 w.heap.size 0 [x, y, z] ∧ w.heap.size < w1.heap.size ∧ Below w.heap.size w w1 := by
  have hs : w.heap.size < (w.alloc (.cells #[x, y, z] t)).heap.size := by rw [World.size_alloc]; omega
  exact ⟨(box_at w [x, y, z] t).then hb hs, Nat.lt_of_lt_of_le hs hb.size, belowThen (belowBox w _) hb⟩
theorem get3 {w : World} {b : Nat} {x y z : Value} (hc : CellsAt w b 0 [x, y, z]) : w.cell? ⟨b, 0, none⟩ = some x ∧ w.cell? ⟨b, 1, none⟩ = some y ∧ w.cell? ⟨b, 2, none⟩ = some z := ⟨hc.get0 rfl, hc.get0 rfl, hc.get0 rfl⟩

end Go.Proofs.YtmjfggadehkbjaaGreatDoor
