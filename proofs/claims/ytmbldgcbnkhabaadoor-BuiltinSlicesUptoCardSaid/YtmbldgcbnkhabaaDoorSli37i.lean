/- What Slice gives. No program here. -/
import Derived.Test.YtmbldgcbnkhabaaDoorSli37a
import Derived.Test.YtmbldgcbnkhabaaDoorCharP
namespace Go.Proofs.YtmbldgcbnkhabaaDoor
open Go.RowKit

theorem chkD_zero {v : ValD} (h : chkD v = 0) : oneE v = 0 := by
  unfold chkD at h
  rw [show lookD 48 v 0 = if (65536 : Int) ≤ 0 then (0, 10) else if oneE v = 0 then kidsL (lookD 47) (kidsD v) (0 + 1) else (0, oneE v) from rfl, if_neg (by omega)] at h
  by_cases h1 : oneE v = 0
  · exact h1
  · rw [if_neg h1] at h
    exact absurd h h1
/-- What is known of a valid value. -/
theorem chkD_own {v : ValD} (h : chkD v = 0) : VDec v.num ∧ validS v.text = true ∧ v.text.size ≤ 65536 ∧ (v.kind ≠ 6 → v.list = []) ∧ (v.kind ≠ 4 → v.text.size = 0) := by
  have h1 := chkD_zero h
  unfold oneE at h1
  by_cases h2 : ownB v = false
  · rw [if_pos h2] at h1; exact absurd h1 (by decide)
  rw [if_neg h2] at h1
  by_cases h3 : vdecB v.num = false ∨ (v.kind = 3 ∧ vtimeB v.time = false)
  · rw [if_pos h3] at h1; exact absurd h1 (by decide)
  rw [if_neg h3] at h1
  by_cases h4 : validS v.text = false
  · rw [if_pos h4] at h1; exact absurd h1 (by decide)
  rw [if_neg h4] at h1
  by_cases h5 : 65536 < v.text.size ∨ 65536 < v.bytes.length
  · rw [if_pos h5] at h1; exact absurd h1 (by decide)
  have ho := (ownB_iff v).1 (by simpa using h2)
  obtain ⟨_, _, _, _, _, g4, _, g6, _⟩ := ho
  refine ⟨(vdecB_iff _).1 ?_, by simpa using h4, by omega, fun hk => List.length_eq_zero_iff.1 (by have := g6 hk; omega), fun hk => by
    rcases Nat.eq_zero_or_pos v.text.size with h9 | h9
    · exact h9
    · exact absurd (g4 hk) (ne_toList h9)⟩
  cases hb : vdecB v.num
  · exact absurd (Or.inl hb) h3
  · rfl

/-- A number as a bound of n. -/
def cutD (x : Int) (n : Nat) : Nat := if x < 0 then (x + n).toNat else if (n : Int) < x then n else x.toNat
def bndD (v : ValD) (n u : Nat) : Nat := if v.kind = 0 then u else cutD (whD v.num) n
def bndE (v : ValD) : Int := if v.kind = 0 then 0 else if v.kind = 2 then (if v.num.exp < 0 then 15 else 0) else 6
theorem cutD_le (x : Int) (n : Nat) : cutD x n ≤ n := by
  unfold cutD
  split
  · omega
  · split <;> omega
theorem bndD_le (v : ValD) {n u : Nat} (hu : u ≤ n) : bndD v n u ≤ n := by
  unfold bndD
  split
  · exact hu
  · exact cutD_le _ _
/-- The same by what the reference asks of the number. -/
theorem cut_ref (d : DecD) (n : Nat) (hn : n ≤ 4294967296) :
    (((toJ d).2 ≠ 0 ∧ d.neg = true) ∨ ((toJ d).2 = 0 ∧ (toJ d).1 < -(n : Int)) → cutD (whD d) n = 0) ∧
    (((toJ d).2 ≠ 0 ∧ d.neg = false) ∨ ((toJ d).2 = 0 ∧ (n : Int) < (toJ d).1) → cutD (whD d) n = n) ∧
    ((toJ d).2 = 0 → -(n : Int) ≤ (toJ d).1 → (toJ d).1 < 0 → (cutD (whD d) n : Int) = (toJ d).1 + n) ∧
    ((toJ d).2 = 0 → (toJ d).1 ≤ (n : Int) → 0 ≤ (toJ d).1 → (cutD (whD d) n : Int) = (toJ d).1) := by
  unfold cutD whD
  generalize (toJ d).1 = a
  generalize (toJ d).2 = b
  cases d.neg <;> by_cases hb : b = 0
  all_goals
    simp only [hb, if_true, if_false, ne_eq, not_true, not_false_iff, false_and, true_and, and_true, and_false, or_false, false_or, reduceCtorEq]
    refine ⟨?_, ?_, ?_, ?_⟩
  all_goals intros
  all_goals first
    | contradiction
    | (repeat' split) <;> omega

/-- What Slice gives. -/
def slcD (v a b : ValD) : ValD × Int :=
  if v.kind ≠ 0 ∧ v.kind ≠ 4 ∧ v.kind ≠ 6 then (zeroD, 6)
  else if bndE a ≠ 0 then (zeroD, bndE a)
  else if bndE b ≠ 0 then (zeroD, bndE b)
  else if v.kind = 0 then (zeroD, 0)
  else if v.kind = 4 then (textD (joinD (((charsD v.text).drop (bndD a (charsD v.text).length 0)).take (bndD b (charsD v.text).length (charsD v.text).length - bndD a (charsD v.text).length 0))), 0)
  else resD (lisD ((v.list.drop (bndD a v.list.length 0)).take (bndD b v.list.length v.list.length - bndD a v.list.length 0)))
end Go.Proofs.YtmbldgcbnkhabaaDoor

/- The bounds of a slice: builtin.bound, datakitref37.bound. -/
namespace Go.Proofs.YtmbldgcbnkhabaaDoor
open Go.RowKit

set_option maxRecDepth 100000 in
set_option maxHeartbeats 1600000 in
theorem bound_prog (v : ValD) (n u : Nat) (w : World) (B N : Nat) (cs : List Value) (hn : n ≤ 4294967296) (hd : VDec v.num) (hv : ValD.At w B N v cs) :
    Calls Tryd.prog 27 #[.agg cs.toArray, .int .i64 n, .int .i64 u] w (IntB (bndD v n u) w) := by
  obtain ⟨ya, la, va, yc, lc, vc, hh⟩ := hv.has
  have z0 := hh.kind
  have z2 := hh.neg
  have z3 := hh.digits
  have z4 := hh.exp
  have H0 := Lib.hid (belowBox w (.cells cs.toArray 30))
  have HD := Lib.hid hd
  clear hv hh hd
  by_cases hk : v.kind = 0
  · have HR := Lib.hid (show bndD v n u = u by unfold bndD; rw [if_pos hk])
    rw [hk] at z0
    clear hk
    go_enter Tryd.func27, Tryd.ntmps27
    go_wp2_with fail
    go_ret
    exact ⟨by rw [HR.out]; rfl, H0.out⟩
  · have hr := whD_range v.num
    have HRR := Lib.hid (show bndD v n u = cutD (whD v.num) n by unfold bndD; rw [if_neg hk])
    obtain ⟨x, hx⟩ : ∃ x, whD v.num = x := ⟨_, rfl⟩
    rw [hx] at hr HRR
    have HX := Lib.hid hx
    clear hx
    have hk2 : (v.kind == 0) = false := by simpa using hk
    clear hk
    have hcase : (x < 0 ∧ x + n < 0) ∨ (x < 0 ∧ 0 ≤ x + n) ∨ (0 ≤ x ∧ (n : Int) < x) ∨ (0 ≤ x ∧ x ≤ n) := by omega
    rcases hcase with ⟨g1, g2⟩ | ⟨g1, g2⟩ | ⟨g1, g2⟩ | ⟨g1, g2⟩
    all_goals
      go_enter Tryd.func27, Tryd.ntmps27
      go_wp2_with fail
      refine (whole_n v.num x HX.out _ HD.out).mono ?_
      rintro e w1 ⟨rfl, hb⟩
      have H1 := Lib.hid (belowThen H0.out hb)
      clear hb
      go_wp2_with fail
      go_ret
      refine ⟨?_, H1.out⟩
      rw [HRR.out]
      refine ret_int ?_
      unfold cutD
      (repeat' split) <;> omega

theorem toi_n' (d : DecD) (w : World) {n k : Int} {ng : Bool} (hn : d.neg = ng) (h : toI d = (n, k)) (hv : VDec d) (he : 0 ≤ d.exp) : Calls Tryd.prog 40 #[.agg #[.bool ng, .string d.digits, .int .i64 d.exp]] w (TwoR n k w) := by rw [← hn]; exact toi_n d w h hv he
theorem whole_ref' (d : DecD) (b : Bool) (w : World) {ng : Bool} (hn : d.neg = ng) (hb : decide (0 ≤ d.exp) = b) : Calls Tryd.prog 22 #[.agg #[.bool ng, .string d.digits, .int .i64 d.exp]] w (WhlR b w) := by rw [← hn]; exact whole_ref d b w hb
def BdfR (v : ValD) (n u : Nat) (w : World) (e : Ending) (w' : World) : Prop := e = .returned (.tuple #[.int .i64 (if bndE v = 0 then (bndD v n u : Int) else 0), .int .i64 (bndE v)]) ∧ Below w.heap.size w w'
theorem bnd_ret {v : ValD} {n u : Nat} {w w' : World} {x k : Int} (h : bndE v = k) (h2 : (if k = 0 then (bndD v n u : Int) else 0) = x) (hb : Below w.heap.size w w') : BdfR v n u w (.returned (.tuple #[.int .i64 x, .int .i64 k])) w' := by
  refine ⟨?_, hb⟩
  rw [h, h2]
set_option maxRecDepth 100000 in
set_option maxHeartbeats 3200000 in
theorem bound_ref (v : ValD) (n u : Nat) (w : World) (B N : Nat) (cs : List Value) (hn : n ≤ 4294967296) (hd : VDec v.num) (hv : ValD.At w B N v cs) :
    Calls Tryd.prog 33 #[.agg cs.toArray, .int .i64 n, .int .i64 u] w (BdfR v n u w) := by
  obtain ⟨ya, la, va, yc, lc, vc, hh⟩ := hv.has
  have z0 := hh.kind
  have z2 := hh.neg
  have z3 := hh.digits
  have z4 := hh.exp
  have H0 := Lib.hid (belowBox w (.cells cs.toArray 30))
  have R0 := Lib.hid (box_at w cs 30)
  have HD := Lib.hid hd
  have HSZ := Lib.hid (World.size_alloc w (.cells cs.toArray 30))
  clear hv hh hd
  by_cases hk : v.kind = 0
  · have HR := Lib.hid (show bndD v n u = u by unfold bndD; rw [if_pos hk])
    have HE := Lib.hid (show bndE v = 0 by unfold bndE; rw [if_pos hk])
    rw [hk] at z0
    clear hk
    go_enter Tryd.func33, Tryd.ntmps33
    go_wp2_with fail
    go_ret2
    exact bnd_ret HE.out (by rw [if_pos rfl, HR.out]) H0.out
  by_cases hk2 : v.kind = 2
  · rw [hk2] at z0
    have HRR := Lib.hid (show bndD v n u = cutD (whD v.num) n by unfold bndD; rw [if_neg hk])
    by_cases hx : v.num.exp < 0
    · have HE := Lib.hid (show bndE v = 15 by unfold bndE; rw [if_neg hk, if_pos hk2, if_pos hx])
      have hx2 := Lib.hid (show decide (0 ≤ v.num.exp) = false by simpa using hx)
      clear hk hk2 hx
      go_enter Tryd.func33, Tryd.ntmps33
      go_wp2_with fail
      refine (whole_ref v.num false _ hx2.out).mono ?_
      rintro e w1 ⟨rfl, hb⟩
      have H1 := Lib.hid (belowThen H0.out hb)
      clear hb
      go_wp2_with fail
      go_ret2
      exact bnd_ret HE.out (by rw [if_neg (by decide)]) H1.out
    · have HE := Lib.hid (show bndE v = 0 by unfold bndE; rw [if_neg hk, if_pos hk2, if_neg hx])
      have hx2 := Lib.hid (show decide (0 ≤ v.num.exp) = true by simp; omega)
      have hx9 := Lib.hid (show 0 ≤ v.num.exp by omega)
      obtain ⟨a, k, hak⟩ : ∃ a k, toJ v.num = (a, k) := ⟨_, _, rfl⟩
      have HJ := Lib.hid (show toI v.num = (a, k) by rw [← hak]; unfold toJ; rw [if_neg hx])
      obtain ⟨c1, c2, c3, c4⟩ := cut_ref v.num n hn
      have hle := toJ_le v.num
      rw [hak] at c1 c2 c3 c4 hle
      simp only at c1 c2 c3 c4 hle
      obtain ⟨ng, hng⟩ : ∃ ng, v.num.neg = ng := ⟨_, rfl⟩
      rw [hng] at c1 c2 z2
      have hle : k = 0 → -9223372036854775808 ≤ a ∧ a ≤ 9223372036854775807 := hle
      obtain ⟨y, hy, hcase⟩ : ∃ y : Int, (cutD (whD v.num) n : Int) = y ∧ ((k ≠ 0 ∧ ng = true ∧ Hid (y = 0)) ∨ (k ≠ 0 ∧ ng = false ∧ Hid (y = n)) ∨ (k = 0 ∧ a < -(n : Int) ∧ Hid (y = 0)) ∨ (k = 0 ∧ (n : Int) < a ∧ Hid (y = n)) ∨ (k = 0 ∧ (-(n : Int) ≤ a ∧ a < 0) ∧ Hid (y = a + n)) ∨ (k = 0 ∧ (0 ≤ a ∧ a ≤ (n : Int)) ∧ Hid (y = a))) := by
        refine ⟨_, rfl, ?_⟩
        by_cases h : k = 0
        · by_cases h1 : a < -(n : Int)
          · exact .inr (.inr (.inl ⟨h, h1, Lib.hid (by rw [c1 (.inr ⟨h, h1⟩)]; rfl)⟩))
          by_cases h2 : (n : Int) < a
          · exact .inr (.inr (.inr (.inl ⟨h, h2, Lib.hid (by rw [c2 (.inr ⟨h, h2⟩)])⟩)))
          by_cases h3 : a < 0
          · exact .inr (.inr (.inr (.inr (.inl ⟨h, ⟨by omega, h3⟩, Lib.hid (c3 h (by omega) h3)⟩))))
          · exact .inr (.inr (.inr (.inr (.inr ⟨h, ⟨by omega, by omega⟩, Lib.hid (c4 h (by omega) (by omega))⟩))))
        · cases ng
          · exact .inr (.inl ⟨h, rfl, Lib.hid (by rw [c2 (.inl ⟨h, rfl⟩)])⟩)
          · exact .inl ⟨h, rfl, Lib.hid (by rw [c1 (.inl ⟨h, rfl⟩)]; rfl)⟩
      have HY := Lib.hid hy
      have HNG := Lib.hid hng
      clear hk hk2 hx hak c1 c2 c3 c4 hng hy
      rcases hcase with ⟨g1, g2, hy⟩ | ⟨g1, g2, hy⟩ | ⟨g1, g2, hy⟩ | ⟨g1, g2, hy⟩ | ⟨g1, ⟨g2, g3⟩, hy⟩ | ⟨g1, ⟨g2, g3⟩, hy⟩
      case' inl =>
        subst g2
        have g3 : (k == 0) = false := by simpa using g1
        have g4 : (k != 0) = true := by simpa using g1
        clear g1
      case' inr.inl =>
        subst g2
        have g3 : (k == 0) = false := by simpa using g1
        have g4 : (k != 0) = true := by simpa using g1
        clear g1
      case' inr.inr.inl =>
        subst g1
        have hle := hle rfl
      case' inr.inr.inr.inl =>
        subst g1
        have hle := hle rfl
      case' inr.inr.inr.inr.inl =>
        subst g1
        have hle := hle rfl
      case' inr.inr.inr.inr.inr =>
        subst g1
        have hle := hle rfl
      all_goals
        go_enter Tryd.func33, Tryd.ntmps33
        go_wp2_with fail
        refine (whole_ref' v.num true _ HNG.out hx2.out).mono ?_
        rintro e w1 ⟨rfl, hb⟩
        have H1 := Lib.hid (belowThen H0.out hb)
        have R1 := Lib.hid (R0.out.then hb (by rw [HSZ.out]; omega))
        have hs1 : w.heap.size + 1 ≤ w1.heap.size := by have := hb.size; rw [HSZ.out] at this; exact this
        have d2 := R1.out.get0 z2
        have d3 := R1.out.get0 z3
        have d4 := R1.out.get0 z4
        clear hb
        go_wp2_with fail
        refine (toi_n' v.num _ HNG.out HJ.out HD.out hx9.out).mono ?_
        rintro e w2 ⟨rfl, hb⟩
        have H2 := Lib.hid (belowThen H1.out hb)
        have R2 := Lib.hid (R1.out.then hb (by omega))
        have e2 := R2.out.get0 z2
        clear hb d2 d3 d4
        go_wp2_with fail
        go_ret2
        refine bnd_ret HE.out ?_ H2.out
        rw [if_pos rfl, HRR.out, HY.out, hy.out]
        try omega
  · have HE := Lib.hid (show bndE v = 6 by unfold bndE; rw [if_neg hk, if_neg hk2])
    obtain ⟨k, hkk⟩ : ∃ k, v.kind = k := ⟨_, rfl⟩
    rw [hkk] at z0 hk hk2
    have g1 : (k == 0) = false := by simpa using hk
    have g2 : (k == 2) = false := by simpa using hk2
    have g3 : (k != 2) = true := by simpa using hk2
    clear hk hk2 hkk
    go_enter Tryd.func33, Tryd.ntmps33
    go_wp2_with fail
    go_ret2
    exact bnd_ret HE.out (by rw [if_neg (by decide)]) H0.out
end Go.Proofs.YtmbldgcbnkhabaaDoor
