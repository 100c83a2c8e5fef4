/- decimal.ToInt and datakitref02.ToInt: both compute the same of a valid decimal. -/
import Derived.Test.YtmbldgcbnkhabaaDoorNou01
namespace Go.Proofs.YtmbldgcbnkhabaaDoor
open Go.RowKit

def maxN : List UInt8 := [57, 50, 50, 51, 51, 55, 50, 48, 51, 54, 56, 53, 52, 55, 55, 53, 56, 48, 56]
def decT (d : DecD) : ByteArray := d.digits ++ zerosS d.exp.toNat
def toI (d : DecD) : Int × Int :=
  if 19 < d.digits.size + d.exp then (0, 2)
  else if d.neg = true ∧ (decT d).toList = maxN then (-9223372036854775808, 0)
  else (if d.neg then -(toIntF (decT d)).1 else (toIntF (decT d)).1, (toIntF (decT d)).2)
theorem toIntF_cases (s : ByteArray) : (∃ n : Nat, toIntF s = ((n : Int), 0) ∧ n ≤ 9223372036854775807 ∧ n = dv s.data.toList) ∨ (toIntF s = (0, 2) ∧ 9223372036854775807 < dv s.data.toList) := by
  unfold toIntF
  by_cases h : dv s.data.toList ≤ 9223372036854775807
  · exact .inl ⟨_, by rw [if_pos h], h, rfl⟩
  · exact .inr ⟨by rw [if_neg h], by omega⟩
theorem zerosS_size (n : Nat) : (zerosS n).size = n := by unfold zerosS; rw [strOfNums_size, List.length_replicate]
theorem byteI_append (a b : ByteArray) (i : Nat) : byteI (a ++ b) i = if i < a.size then byteI a i else byteI b (i - a.size) := by
  unfold byteI
  by_cases h : i < a.size
  · rw [if_pos h, dif_pos h, dif_pos (by rw [ByteArray.size_append]; omega), ByteArray.getElem_append_left h]
  · rw [if_neg h]
    by_cases h2 : i - a.size < b.size
    · rw [dif_pos h2, dif_pos (by rw [ByteArray.size_append]; omega), ByteArray.getElem_append_right (by omega)]
    · rw [dif_neg h2, dif_neg (by rw [ByteArray.size_append]; omega)]
theorem byteI_zeros (n i : Nat) (h : i < n) : byteI (zerosS n) i = 48 := by
  rw [← byteI_eq (by rw [zerosS_size]; exact h)]
  have : (zerosS n)[i]'(by rw [zerosS_size]; exact h) = 48 := by
    unfold zerosS strOfNums
    show (List.map _ _).toArray[i]'_ = _
    simp
  rw [this]
  rfl
theorem decT_good {d : DecD} (hv : VDec d) (h0 : 0 ≤ d.exp) (h19 : d.digits.size + d.exp ≤ 19) : DigS (decT d) ∧ (decT d).size ≤ 19 ∧ ((decT d).size = 0 ∨ byteI (decT d) 0 ≠ 48) := by
  have hsz : (decT d).size = d.digits.size + d.exp.toNat := by unfold decT; rw [ByteArray.size_append, zerosS_size]
  refine ⟨fun i hi => ?_, by omega, ?_⟩
  · unfold decT
    rw [byteI_append]
    by_cases h : i < d.digits.size
    · rw [if_pos h]
      rcases hv with ⟨h1, _, _⟩ | ⟨_, _, hdg, _⟩
      · omega
      · exact hdg i h
    · rw [if_neg h, byteI_zeros _ _ (by omega)]
      omega
  · rcases hv with ⟨h1, _, he⟩ | ⟨hp, _, _, hf, _⟩
    · exact .inl (by rw [hsz, h1, he]; rfl)
    · refine .inr ?_
      unfold decT
      rw [byteI_append, if_pos hp]
      exact hf
theorem dv_maxN : dv maxN = 9223372036854775808 := by decide +kernel
theorem toList_data (s : ByteArray) : s.toList = s.data.toList := ByteArray.toList_eq _
theorem ret_2 {k l : IntKind} {a b c d : Int} (h : a = b) (g : c = d) : Ending.returned (.tuple #[.int k a, .int l c]) = .returned (.tuple #[.int k b, .int l d]) := by rw [h, g]
theorem box3 {w w2 : World} {x y z : Value} {t : TypeId} (hb : Below (w.alloc (.cells #[x, y, z] t)).drew.heap.size (w.alloc (.cells #[x, y, z] t)).drew w2) :
    w2.cell? ⟨w.heap.size, 0, none⟩ = some x ∧ w2.cell? ⟨w.heap.size, 1, none⟩ = some y ∧ w2.cell? ⟨w.heap.size, 2, none⟩ = some z ∧ Below w.heap.size w w2 := by
  have hb' : Below (w.alloc (.cells #[x, y, z] t)).heap.size (w.alloc (.cells #[x, y, z] t)) w2 := ⟨hb.os, hb.tape, hb.output, hb.size, hb.block⟩
  have hs : w.heap.size < (w.alloc (.cells #[x, y, z] t)).heap.size := by rw [World.size_alloc]; omega
  have hc := (box_at w [x, y, z] t).then hb' hs
  exact ⟨hc.get0 rfl, hc.get0 rfl, hc.get0 rfl, belowThen (belowBox w _) hb'⟩
def ToIR (d : DecD) (w : World) (e : Ending) (w' : World) : Prop := e = .returned (.tuple #[.int .i64 (toI d).1, .int .i64 (toI d).2]) ∧ Below w.heap.size w w'

def IntN (n k : Int) (w : World) (e : Ending) (w' : World) : Prop := e = .returned (.tuple #[.int .i64 n, .int .i64 k]) ∧ w = w'
theorem toInt_ref_n (s : ByteArray) (w : World) {n k : Int} (h : toIntF s = (n, k)) (h19 : s.size ≤ 19) (hd : DigS s) (h0 : s.size = 0 ∨ byteI s 0 ≠ 48) : Calls Tryd.prog 54 #[.string s] w (IntN n k w) :=
  (toInt_ref s w h19 hd h0).mono fun e w' hh => ⟨by rw [hh.1, h], hh.2⟩
theorem toInt_prog_n (s : ByteArray) (w : World) {n k : Int} (h : toIntF s = (n, k)) (h19 : s.size ≤ 19) (hd : DigS s) (h0 : s.size = 0 ∨ byteI s 0 ≠ 48) : Calls Tryd.prog 52 #[.string s] w (IntN n k w) :=
  (toInt_prog s w h19 hd h0).mono fun e w' hh => ⟨by rw [hh.1, h], hh.2⟩
/-- The ways that ToInt goes, of a number that is not too long. -/
theorem toI_ways {ng : Bool} {dg : ByteArray} {m : Nat} (hb : ¬ 19 < dg.size + (m : Int)) :
    (ng = true ∧ toI ⟨ng, dg, m⟩ = (-9223372036854775808, 0) ∧ (dg ++ zerosS m).toList = maxN ∧ toIntF (dg ++ zerosS m) = (0, 2)) ∨
    (ng = true ∧ ¬ (dg ++ zerosS m).toList = maxN ∧ ((∃ n : Nat, (n : Int) ≤ 9223372036854775807 ∧ toIntF (dg ++ zerosS m) = ((n : Int), 0) ∧ toI ⟨ng, dg, m⟩ = (-(n : Int), 0)) ∨ (toIntF (dg ++ zerosS m) = (0, 2) ∧ toI ⟨ng, dg, m⟩ = (0, 2)))) ∨
    (ng = false ∧ ((∃ n : Nat, (n : Int) ≤ 9223372036854775807 ∧ toIntF (dg ++ zerosS m) = ((n : Int), 0) ∧ toI ⟨ng, dg, m⟩ = ((n : Int), 0)) ∨ (toIntF (dg ++ zerosS m) = (0, 2) ∧ toI ⟨ng, dg, m⟩ = (0, 2)))) := by
  have e : decT ⟨ng, dg, m⟩ = dg ++ zerosS m := rfl
  unfold toI
  rw [if_neg hb, e]
  cases ng with
  | false =>
    refine .inr (.inr ⟨rfl, ?_⟩)
    rcases toIntF_cases (dg ++ zerosS m) with ⟨n, h1, h2, _⟩ | ⟨h1, _⟩
    · exact .inl ⟨n, by omega, h1, by rw [h1]; simp⟩
    · exact .inr ⟨h1, by rw [h1]; simp⟩
  | true =>
    by_cases hm : (dg ++ zerosS m).toList = maxN
    · refine .inl ⟨rfl, by rw [if_pos ⟨rfl, hm⟩], hm, ?_⟩
      rcases toIntF_cases (dg ++ zerosS m) with ⟨n, h1, h2, h3⟩ | ⟨h1, _⟩
      · rw [← toList_data, hm, dv_maxN] at h3
        omega
      · exact h1
    · refine .inr (.inl ⟨rfl, hm, ?_⟩)
      rw [if_neg (fun h => hm h.2)]
      rcases toIntF_cases (dg ++ zerosS m) with ⟨n, h1, h2, _⟩ | ⟨h1, _⟩
      · exact .inl ⟨n, by omega, h1, by rw [h1]; simp⟩
      · exact .inr ⟨h1, by rw [h1]; simp⟩
set_option maxRecDepth 100000 in
set_option maxHeartbeats 3200000 in
theorem toi_ref (d : DecD) (w : World) (hv : VDec d) (he : 0 ≤ d.exp) : Calls Tryd.prog 40 #[.agg #[.bool d.neg, .string d.digits, .int .i64 d.exp]] w (ToIR d w) := by
  have hs : d.digits.size ≤ 120 := by rcases hv with ⟨h, _⟩ | ⟨_, h, _⟩ <;> omega
  have hx : d.exp ≤ 400 := by rcases hv with ⟨_, _, h⟩ | ⟨_, _, _, _, _, _, h⟩ <;> omega
  by_cases hbig : 19 < d.digits.size + d.exp
  · have HZ := Lib.hid (show toI d = (0, 2) by unfold toI; rw [if_pos hbig])
    clear hv
    go_enter Tryd.func40, Tryd.ntmps40
    go_wp2_with fail
    go_ret2
    exact ⟨by rw [HZ.out]; rfl, Below.box _ _⟩
  obtain ⟨g1, g2, g3⟩ := decT_good hv he (by omega)
  obtain ⟨m, hm⟩ : ∃ m : Nat, d.exp = m := ⟨d.exp.toNat, by omega⟩
  clear hv
  rcases d with ⟨ng, dg, ex⟩
  simp only at hs hx he hbig hm
  subst hm
  have G1 := Lib.hid (show DigS (dg ++ zerosS m) from g1)
  have G2 : (dg ++ zerosS m).size ≤ 19 := g2
  have G3 := Lib.hid (show (dg ++ zerosS m).size = 0 ∨ byteI (dg ++ zerosS m) 0 ≠ 48 from g3)
  have hz := zerosS_size m
  have hsum : ¬ 9223372036854775807 < dg.size + m := by omega
  have hw := toI_ways (ng := ng) hbig
  clear g1 g2 g3
  generalize hT : dg ++ zerosS m = T at G1 G2 G3 hw
  have HT := Lib.hid hT
  clear hT
  rcases hw with ⟨rfl, hI, hM, hF⟩ | ⟨rfl, hM, ⟨n, hn, hF, hI⟩ | ⟨hF, hI⟩⟩ | ⟨rfl, ⟨n, hn, hF, hI⟩ | ⟨hF, hI⟩⟩
  · have HI := Lib.hid hI
    have hM2 : (T.toList == [57, 50, 50, 51, 51, 55, 50, 48, 51, 54, 56, 53, 52, 55, 55, 53, 56, 48, 56]) = true := by rw [hM]; rfl
    have HM2 := Lib.hid hM2
    clear hI hM hF hM2
    go_enter Tryd.func40, Tryd.ntmps40
    go_wp2_with fail
    go_region_with (go_at_call 53; refine (noughts_ex m _ (by omega)).mono ?_; rintro e w2 ⟨rfl, hb2⟩; have b3 := box3 hb2; have d0 := b3.1; have d1 := b3.2.1; have d2 := b3.2.2.1; have HB2 := Lib.hid b3.2.2.2; clear b3 hb2)
    all_goals
      (rw [HT.out]
       have hM2 := HM2.out
       go_wp2_with fail
       go_ret2
       exact ⟨by rw [HI.out]; rfl, HB2.out⟩)
  all_goals
    have HI := Lib.hid hI
    have HF := Lib.hid hF
    clear hI hF
    go_enter Tryd.func40, Tryd.ntmps40
    go_wp2_with fail
    go_region_with (go_at_call 53; refine (noughts_ex m _ (by omega)).mono ?_; rintro e w2 ⟨rfl, hb2⟩; have b3 := box3 hb2; have d0 := b3.1; have d1 := b3.2.1; have d2 := b3.2.2.1; have HB2 := Lib.hid b3.2.2.2; clear b3 hb2)
    all_goals
      (rw [HT.out]
       try (have hM2 : (T.toList == [57, 50, 50, 51, 51, 55, 50, 48, 51, 54, 56, 53, 52, 55, 55, 53, 56, 48, 56]) = false := by simpa [maxN] using hM)
       go_wp2_with (go_at_call 54; refine (toInt_ref_n T _ HF.out G2 G1.out G3.out).mono ?_; rintro e w' ⟨rfl, rfl⟩)
       go_ret2
       exact ⟨by rw [HI.out]; rfl, HB2.out⟩)
end Go.Proofs.YtmbldgcbnkhabaaDoor
