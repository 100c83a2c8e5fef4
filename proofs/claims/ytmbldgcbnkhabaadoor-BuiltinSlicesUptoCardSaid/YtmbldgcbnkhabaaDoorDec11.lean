/- decimal.ToInt: it computes what datakitref02.ToInt does, of a valid decimal. -/
import Derived.Test.YtmbldgcbnkhabaaDoorDec10
namespace Go.Proofs.YtmbldgcbnkhabaaDoor
open Go.RowKit

def WhlR (b : Bool) (w : World) (e : Ending) (w' : World) : Prop := e = .returned (.bool b) ∧ Below w.heap.size w w'
theorem whole_prog (d : DecD) (b : Bool) (w : World) (hb : decide (0 ≤ d.exp) = b) : Calls Tryd.prog 16 #[.agg #[.bool d.neg, .string d.digits, .int .i64 d.exp]] w (WhlR b w) := by
  cases b
  · have h : d.exp < 0 := by simpa using hb
    clear hb
    go_enter Tryd.func16, Tryd.ntmps16
    go_wp2_with fail
    go_ret
    exact ⟨by first | rfl | (congr 2; simp; omega), Below.box _ _⟩
  · have h : 0 ≤ d.exp := by simpa using hb
    clear hb
    go_enter Tryd.func16, Tryd.ntmps16
    go_wp2_with fail
    go_ret
    exact ⟨by first | rfl | (congr 2; simp; omega), Below.box _ _⟩
theorem whole_ref (d : DecD) (b : Bool) (w : World) (hb : decide (0 ≤ d.exp) = b) : Calls Tryd.prog 22 #[.agg #[.bool d.neg, .string d.digits, .int .i64 d.exp]] w (WhlR b w) := by
  cases b
  · have h : d.exp < 0 := by simpa using hb
    clear hb
    go_enter Tryd.func22, Tryd.ntmps22
    go_wp2_with fail
    go_ret
    exact ⟨by first | rfl | (congr 2; simp; omega), Below.box _ _⟩
  · have h : 0 ≤ d.exp := by simpa using hb
    clear hb
    go_enter Tryd.func22, Tryd.ntmps22
    go_wp2_with fail
    go_ret
    exact ⟨by first | rfl | (congr 2; simp; omega), Below.box _ _⟩
theorem rep_ex (m : Nat) (w : World) (hm : m ≤ 400) : Calls Tryd.prog 51 #[.string ⟨#[48]⟩, .int .i64 m] w (NouR m w) := by
  refine (Tryd.strings_Repeat ⟨#[48]⟩ m w (by omega) (by first | omega | (show 1 * m ≤ _; omega))).mono ?_
  rintro e w' ⟨rfl, hb⟩
  exact ⟨by rw [← strOf_rep], hb⟩
theorem drew3 {w w2 : World} {b : Nat} {x y z : Value} (hc : CellsAt w b 0 [x, y, z]) (hlt : b < w.heap.size) (hb : Below w.drew.heap.size w.drew w2) :
    w2.cell? ⟨b, 0, none⟩ = some x ∧ w2.cell? ⟨b, 1, none⟩ = some y ∧ w2.cell? ⟨b, 2, none⟩ = some z ∧ Below w.heap.size w w2 := by
  have hb' : Below w.heap.size w w2 := ⟨hb.os, hb.tape, hb.output, hb.size, hb.block⟩
  have hc2 := hc.then hb' hlt
  exact ⟨hc2.get0 rfl, hc2.get0 rfl, hc2.get0 rfl, hb'⟩
/-- What stands of a boxed row of three behind the first call. -/
theorem box3c {w w1 : World} {x y z : Value} {t : TypeId} (hb : Below (w.alloc (.cells #[x, y, z] t)).heap.size (w.alloc (.cells #[x, y, z] t)) w1) : CellsAt w1 w.heap.size 0 [x, y, z] ∧ w.heap.size < w1.heap.size ∧ Below w.heap.size w w1 := by
  have hs : w.heap.size < (w.alloc (.cells #[x, y, z] t)).heap.size := by rw [World.size_alloc]; omega
  exact ⟨(box_at w [x, y, z] t).then hb hs, Nat.lt_of_lt_of_le hs hb.size, belowThen (belowBox w _) hb⟩
theorem get3 {w : World} {b : Nat} {x y z : Value} (hc : CellsAt w b 0 [x, y, z]) : w.cell? ⟨b, 0, none⟩ = some x ∧ w.cell? ⟨b, 1, none⟩ = some y ∧ w.cell? ⟨b, 2, none⟩ = some z := ⟨hc.get0 rfl, hc.get0 rfl, hc.get0 rfl⟩

set_option maxRecDepth 100000 in
set_option maxHeartbeats 3200000 in
theorem toi_prog (d : DecD) (w : World) (hv : VDec d) (he : 0 ≤ d.exp) : Calls Tryd.prog 39 #[.agg #[.bool d.neg, .string d.digits, .int .i64 d.exp]] w (ToIR d w) := by
  have hs : d.digits.size ≤ 120 := by rcases hv with ⟨h, _⟩ | ⟨_, h, _⟩ <;> omega
  have hx : d.exp ≤ 400 := by rcases hv with ⟨_, _, h⟩ | ⟨_, _, _, _, _, _, h⟩ <;> omega
  have HV := Lib.hid hv
  by_cases hbig : 19 < d.digits.size + d.exp
  · have HZ := Lib.hid (show toI d = (0, 2) by unfold toI; rw [if_pos hbig])
    clear hv
    go_enter Tryd.func39, Tryd.ntmps39
    go_wp2_with fail
    refine (whole_prog d true _ (by simpa using he)).mono ?_
    rintro e w1 ⟨rfl, hb1⟩
    have C1 := box3c hb1
    obtain ⟨c0, c1, c2⟩ := get3 C1.1
    have H1 := Lib.hid C1
    clear C1 hb1
    go_wp2_with fail
    refine (dec_valid d _ HV.out).mono ?_
    rintro e w2 ⟨rfl, hb2⟩
    clear c0 c1 c2
    have C2 := H1.out.1.then hb2 H1.out.2.1
    obtain ⟨c0, c1, c2⟩ := get3 C2
    have H2 := Lib.hid (belowThen H1.out.2.2 hb2)
    clear C2 hb2
    go_wp2_with fail
    go_ret2
    exact ⟨by rw [HZ.out]; rfl, H2.out⟩
  obtain ⟨g1, g2, g3⟩ := decT_good hv he (by omega)
  obtain ⟨m, hm⟩ : ∃ m : Nat, d.exp = m := ⟨d.exp.toNat, by omega⟩
  clear hv
  rcases d with ⟨ng, dg, ex⟩
  simp only at hs hx he hbig hm
  subst hm
  have G1 := Lib.hid (show DigS (dg ++ zerosS m) from g1)
  have G2 : (dg ++ zerosS m).size ≤ 19 := g2
  have G3 := Lib.hid (show (dg ++ zerosS m).size = 0 ∨ byteI (dg ++ zerosS m) 0 ≠ 48 from g3)
  have hz := zerosS_size m
  have hsum : ¬ 9223372036854775807 < dg.size + m := by omega
  have hw := toI_ways (ng := ng) hbig
  clear g1 g2 g3
  generalize hT : dg ++ zerosS m = T at G1 G2 G3 hw
  have HT := Lib.hid hT
  clear hT
  have HN := Lib.hid (show ∃ n k, toIntF T = (n, k) from ⟨_, _, rfl⟩)
  rcases hw with ⟨rfl, hI, hM, hF⟩ | ⟨rfl, hM, ⟨n, hn, hF, hI⟩ | ⟨hF, hI⟩⟩ | ⟨rfl, ⟨n, hn, hF, hI⟩ | ⟨hF, hI⟩⟩
  all_goals
    have HI := Lib.hid hI
    have HF := Lib.hid hF
    try (have HM := Lib.hid hM; clear hM)
    clear hI hF
    go_enter Tryd.func39, Tryd.ntmps39
    go_wp2_with fail
    refine (whole_prog ⟨_, dg, m⟩ true _ (by simp)).mono ?_
    rintro e w1 ⟨rfl, hb1⟩
    have C1 := box3c hb1
    obtain ⟨c0, c1, c2⟩ := get3 C1.1
    have H1 := Lib.hid C1
    clear C1 hb1
    go_wp2_with fail
    refine (dec_valid ⟨_, dg, m⟩ _ HV.out).mono ?_
    rintro e w2 ⟨rfl, hb2⟩
    clear c0 c1 c2
    have R2 := Lib.hid (H1.out.1.then hb2 H1.out.2.1)
    obtain ⟨c0, c1, c2⟩ := get3 R2.out
    have H2 := Lib.hid (belowThen H1.out.2.2 hb2)
    have hs2 : w.heap.size < w2.heap.size := Nat.lt_of_lt_of_le H1.out.2.1 hb2.size
    clear hb2
    go_wp2_with fail
    go_region_with (go_at_call 51; refine (rep_ex m _ (by omega)).mono ?_; rintro e w3 ⟨rfl, hb3⟩; have b3 := drew3 R2.out hs2 hb3; have d0 := b3.1; have d1 := b3.2.1; have d2 := b3.2.2.1; have HB3 := Lib.hid (belowThen H2.out b3.2.2.2); clear b3 hb3)
    all_goals
      (rw [HT.out]
       try (have hM2 : (T.toList == [57, 50, 50, 51, 51, 55, 50, 48, 51, 54, 56, 53, 52, 55, 55, 53, 56, 48, 56]) = false := by simpa [maxN] using HM.out)
       try (have hM2 : (T.toList == [57, 50, 50, 51, 51, 55, 50, 48, 51, 54, 56, 53, 52, 55, 55, 53, 56, 48, 56]) = true := by rw [HM.out]; rfl)
       go_wp2_with (go_at_call 52; refine (toInt_prog_n T _ HF.out G2 G1.out G3.out).mono ?_; rintro e w' ⟨rfl, rfl⟩)
       go_ret2
       exact ⟨by rw [HI.out]; rfl, HB3.out⟩)
end Go.Proofs.YtmbldgcbnkhabaaDoor
