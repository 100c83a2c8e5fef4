/- builtin.whole, datakitref37.At, value.Copy, value.Field, datakitref07.Field: what they give. -/
import Derived.Test.YtmbldgcbnkhabaaDoorCopC
import Derived.Test.YtmbldgcbnkhabaaDoorDec11
namespace Go.Proofs.YtmbldgcbnkhabaaDoor
open Go.RowKit

theorem results_cell_row2 {P : Program} {fn : Func} {p u : Tmp} {ty : TypeId} (h : fn.results = #[.cell p ty, .tmp u]) (tmps : Array Value) (w : World) (g : Nat) (t : TypeId) (cs : Array Value) (fr : Nat × Nat) (d : TypeDesc)
    (hp : tmps.getD p undef = .pointer (some ⟨g, 0, none⟩)) (hg : w.heap[g]? = some (.cells cs t fr))
    (hu : P.underlying ty = some d) (hd : (match d with | .struct _ | .array _ _ => true | _ => false) = true) (hi : (P.info? ty).map (·.size) = some cs.size) :
    (results fn tmps).run P w = .ok (.tuple #[.agg cs, tmps.getD u undef]) w := by
  have hp' : tmps[p]?.getD undef = .pointer (some ⟨g, 0, none⟩) := by simpa using hp
  simp [results, h, hp', asAddr, run_loadVar_row w g t ty cs fr d hg hu hd hi]
def toJ (d : DecD) : Int × Int := if d.exp < 0 then (0, 15) else toI d
def ToJR (d : DecD) (w : World) (e : Ending) (w' : World) : Prop := e = .returned (.tuple #[.int .i64 (toJ d).1, .int .i64 (toJ d).2]) ∧ Below w.heap.size w w'
theorem toj_prog (d : DecD) (w : World) (hv : VDec d) : Calls Tryd.prog 39 #[.agg #[.bool d.neg, .string d.digits, .int .i64 d.exp]] w (ToJR d w) := by
  by_cases he : 0 ≤ d.exp
  · refine (toi_prog d w hv he).mono fun e w' h => ⟨?_, h.2⟩
    rw [h.1, toJ, if_neg (by omega)]
  · have HZ := Lib.hid (show toJ d = (0, 15) by unfold toJ; rw [if_pos (by omega)])
    clear hv
    go_enter Tryd.func39, Tryd.ntmps39
    go_wp2_with fail
    refine (whole_prog d false _ (by simpa using he)).mono ?_
    rintro e w1 ⟨rfl, hb1⟩
    have H1 := Lib.hid (box3c hb1).2.2
    clear hb1
    go_wp2_with fail
    go_ret2
    exact ⟨by rw [HZ.out]; rfl, H1.out⟩
def TwoR (n k : Int) (w : World) (e : Ending) (w' : World) : Prop := e = .returned (.tuple #[.int .i64 n, .int .i64 k]) ∧ Below w.heap.size w w'
theorem toj_n (d : DecD) (w : World) {n k : Int} (h : toJ d = (n, k)) (hv : VDec d) : Calls Tryd.prog 39 #[.agg #[.bool d.neg, .string d.digits, .int .i64 d.exp]] w (TwoR n k w) :=
  (toj_prog d w hv).mono fun e w' hh => ⟨by rw [hh.1, h], hh.2⟩
theorem toi_n (d : DecD) (w : World) {n k : Int} (h : toI d = (n, k)) (hv : VDec d) (he : 0 ≤ d.exp) : Calls Tryd.prog 40 #[.agg #[.bool d.neg, .string d.digits, .int .i64 d.exp]] w (TwoR n k w) :=
  (toi_ref d w hv he).mono fun e w' hh => ⟨by rw [hh.1, h], hh.2⟩
theorem toJ_le (d : DecD) : (toJ d).2 = 0 → -9223372036854775808 ≤ (toJ d).1 ∧ (toJ d).1 ≤ 9223372036854775807 := by
  intro h
  unfold toJ at h ⊢
  split at h
  · simp at h
  · rename_i hx
    rw [if_neg hx]
    unfold toI at h ⊢
    split at h
    · simp at h
    · rename_i h19
      rw [if_neg h19]
      split at h
      · rename_i hm
        rw [if_pos hm]
        simp
      · rename_i hm
        rw [if_neg hm]
        rcases toIntF_cases (decT d) with ⟨n, h1, h2, _⟩ | ⟨h1, _⟩
        · rw [h1] at h ⊢
          simp only
          cases d.neg <;> simp <;> omega
        · rw [h1] at h
          simp at h
theorem toJ_zero (d : DecD) : (toJ d).2 ≠ 0 → (toJ d).1 = 0 := by
  intro h
  unfold toJ at h ⊢
  split
  · rfl
  · rename_i hx
    rw [if_neg hx] at h
    unfold toI at h ⊢
    split
    · rfl
    · rename_i h19
      rw [if_neg h19] at h
      split
      · rename_i hm
        rw [if_pos hm] at h
        simp at h
      · rename_i hm
        rw [if_neg hm] at h
        rcases toIntF_cases (decT d) with ⟨n, h1, h2, _⟩ | ⟨h1, _⟩
        · rw [h1] at h
          simp at h
        · rw [h1]
          simp
/-- An integer, or one that is far away. -/
def whD (d : DecD) : Int := if (toJ d).2 = 0 then (if (toJ d).1 < -1099511627776 then -1099511627776 else if 1099511627776 < (toJ d).1 then 1099511627776 else (toJ d).1) else if d.neg = true then -1099511627776 else 1099511627776
theorem whD_range (d : DecD) : -1099511627776 ≤ whD d ∧ whD d ≤ 1099511627776 := by
  unfold whD
  split
  · split
    · omega
    · split <;> omega
  · split <;> omega
def WhR (d : DecD) (w : World) (e : Ending) (w' : World) : Prop := e = .returned (.int .i64 (whD d)) ∧ Below w.heap.size w w'
set_option maxRecDepth 100000 in
theorem whole_any (d : DecD) (w : World) (hv : VDec d) : Calls Tryd.prog 18 #[.agg #[.bool d.neg, .string d.digits, .int .i64 d.exp]] w (WhR d w) := by
  have HV := Lib.hid hv
  clear hv
  have hr := toJ_le d
  have HW := Lib.hid (show whD d = if (toJ d).2 = 0 then (if (toJ d).1 < -1099511627776 then -1099511627776 else if 1099511627776 < (toJ d).1 then 1099511627776 else (toJ d).1) else if d.neg = true then -1099511627776 else 1099511627776 from rfl)
  have HT := Lib.hid (show ∃ n k, toJ d = (n, k) from ⟨_, _, rfl⟩)
  obtain ⟨n, k, hnk⟩ := HT.out
  have HNK := Lib.hid hnk
  rw [hnk] at hr
  clear HT hnk
  simp only at hr
  by_cases hk : k = 0
  · obtain ⟨h1, h2⟩ := hr hk
    subst hk
    by_cases hlo : n < -1099511627776
    · go_enter Tryd.func18, Tryd.ntmps18
      go_wp2_with fail
      refine (toj_n d _ HNK.out HV.out).mono ?_
      rintro e w1 ⟨rfl, hb1⟩
      have H1 := Lib.hid (box3c hb1).2.2
      clear hb1
      go_wp2_with fail
      go_ret
      exact ⟨ret_int (by rw [HW.out, HNK.out]; simp only; rw [if_pos trivial, if_pos (by omega)]), H1.out⟩
    · by_cases hhi : 1099511627776 < n
      · go_enter Tryd.func18, Tryd.ntmps18
        go_wp2_with fail
        refine (toj_n d _ HNK.out HV.out).mono ?_
        rintro e w1 ⟨rfl, hb1⟩
        have H1 := Lib.hid (box3c hb1).2.2
        clear hb1
        go_wp2_with fail
        go_ret
        exact ⟨ret_int (by rw [HW.out, HNK.out]; simp only; rw [if_pos trivial, if_neg (by omega), if_pos (by omega)]), H1.out⟩
      · go_enter Tryd.func18, Tryd.ntmps18
        go_wp2_with fail
        refine (toj_n d _ HNK.out HV.out).mono ?_
        rintro e w1 ⟨rfl, hb1⟩
        have H1 := Lib.hid (box3c hb1).2.2
        clear hb1
        go_wp2_with fail
        go_ret
        exact ⟨ret_int (by rw [HW.out, HNK.out]; simp only; rw [if_pos trivial, if_neg (by omega), if_neg (by omega)]), H1.out⟩
  · have hk1 : (k == 0) = false := by simpa using hk
    have hk2 : (k != 0) = true := by simpa using hk
    have HK := Lib.hid hk
    obtain rfl : n = 0 := by have := toJ_zero d (by rw [HNK.out]; exact hk); rw [HNK.out] at this; exact this
    clear hr hk
    cases hn : d.neg
    all_goals
      have HN := Lib.hid hn
      go_enter Tryd.func18, Tryd.ntmps18
      go_wp2_with fail
      rw [← hn]
      refine (toj_n d _ HNK.out HV.out).mono ?_
      rintro e w1 ⟨rfl, hb1⟩
      rw [hn] at hb1
      obtain ⟨c0, c1, c2⟩ := get3 (box3c hb1).1
      have H1 := Lib.hid (box3c hb1).2.2
      clear hb1
      go_wp2_with fail
      go_ret
      exact ⟨by rw [HW.out, HNK.out]; simp [HK.out, HN.out], H1.out⟩
/-- The index that a number means among so many; -1: none. -/
def atD (d : DecD) (n : Nat) : Int := if (toJ d).2 = 0 then (if (toJ d).1 < 0 then (if -(n : Int) ≤ (toJ d).1 then (toJ d).1 + n else -1) else if (toJ d).1 < n then (toJ d).1 else -1) else -1
def AtR (d : DecD) (n : Nat) (w : World) (e : Ending) (w' : World) : Prop := e = .returned (.int .i64 (atD d n)) ∧ Below w.heap.size w w'
/-- What the program does with it. -/
theorem atD_wh (d : DecD) (n : Nat) (hn : n ≤ 4294967296) : (whD d < 0 → (whD d + n < 0 → atD d n = -1) ∧ (0 ≤ whD d + n → atD d n = whD d + n)) ∧ (0 ≤ whD d → (whD d < n → atD d n = whD d) ∧ ((n : Int) ≤ whD d → atD d n = -1)) := by
  unfold whD atD
  by_cases h : (toJ d).2 = 0
  · rw [if_pos h, if_pos h]
    generalize (toJ d).1 = x
    by_cases h1 : x < -1099511627776
    · rw [if_pos h1, if_pos (by omega), if_neg (by omega)]
      exact ⟨fun _ => ⟨fun _ => rfl, fun _ => by omega⟩, fun _ => by omega⟩
    · rw [if_neg h1]
      by_cases h2 : 1099511627776 < x
      · rw [if_pos h2, if_neg (by omega), if_neg (by omega)]
        exact ⟨fun _ => by omega, fun _ => ⟨fun _ => by omega, fun _ => rfl⟩⟩
      · rw [if_neg h2]
        by_cases h3 : x < 0
        · rw [if_pos h3]
          by_cases h4 : -(n : Int) ≤ x
          · rw [if_pos h4]
            exact ⟨fun _ => ⟨fun _ => by omega, fun _ => rfl⟩, fun _ => by omega⟩
          · rw [if_neg h4]
            exact ⟨fun _ => ⟨fun _ => rfl, fun _ => by omega⟩, fun _ => by omega⟩
        · rw [if_neg h3]
          by_cases h4 : x < n
          · rw [if_pos h4]
            exact ⟨fun _ => by omega, fun _ => ⟨fun _ => rfl, fun _ => by omega⟩⟩
          · rw [if_neg h4]
            exact ⟨fun _ => by omega, fun _ => ⟨fun _ => by omega, fun _ => rfl⟩⟩
  · rw [if_neg h, if_neg h]
    cases d.neg
    · rw [if_neg (by simp)]
      exact ⟨fun _ => by omega, fun _ => ⟨fun _ => by omega, fun _ => rfl⟩⟩
    · rw [if_pos rfl]
      exact ⟨fun _ => ⟨fun _ => rfl, fun _ => by omega⟩, fun _ => by omega⟩
theorem atD_range (d : DecD) (n : Nat) : -1 ≤ atD d n ∧ atD d n < n ∨ atD d n = -1 := by
  unfold atD
  split
  · split
    · split <;> omega
    · split <;> omega
  · omega
set_option maxRecDepth 100000 in
theorem at_ref (d : DecD) (n : Nat) (w : World) (hn : n ≤ 4294967296) (hv : VDec d) (he : 0 ≤ d.exp) : Calls Tryd.prog 23 #[.agg #[.bool d.neg, .string d.digits, .int .i64 d.exp], .int .i64 n] w (AtR d n w) := by
  have HV := Lib.hid hv
  clear hv
  have hr := toJ_le d
  have HW := Lib.hid (show atD d n = if (toJ d).2 = 0 then (if (toJ d).1 < 0 then (if -(n : Int) ≤ (toJ d).1 then (toJ d).1 + n else -1) else if (toJ d).1 < n then (toJ d).1 else -1) else -1 from rfl)
  have hJ : toJ d = toI d := by unfold toJ; rw [if_neg (by omega)]
  have HT := Lib.hid (show ∃ x k, toJ d = (x, k) from ⟨_, _, rfl⟩)
  obtain ⟨x, k, hnk⟩ := HT.out
  have HNK := Lib.hid hnk
  have HI := Lib.hid (show toI d = (x, k) by rw [← hJ]; exact hnk)
  rw [hnk] at hr
  clear HT hnk hJ
  simp only at hr
  by_cases hk : k = 0
  · obtain ⟨h1, h2⟩ := hr hk
    subst hk
    have hcs : x < 0 ∧ -(n : Int) ≤ x ∨ x < 0 ∧ ¬ -(n : Int) ≤ x ∨ ¬ x < 0 ∧ x < n ∨ ¬ x < 0 ∧ ¬ x < n := by omega
    rcases hcs with ⟨g1, g2⟩ | ⟨g1, g2⟩ | ⟨g1, g2⟩ | ⟨g1, g2⟩
    all_goals
      go_enter Tryd.func23, Tryd.ntmps23
      go_wp2_with fail
      refine (toi_n d _ HI.out HV.out he).mono ?_
      rintro e w1 ⟨rfl, hb1⟩
      have H1 := Lib.hid (box3c hb1).2.2
      clear hb1
      go_wp2_with fail
      go_ret
      exact ⟨by rw [HW.out, HNK.out]; simp [g1, g2] <;> omega, H1.out⟩
  · have hk1 : (k == 0) = false := by simpa using hk
    have hk2 : (k != 0) = true := by simpa using hk
    have HK := Lib.hid hk
    clear hr hk
    go_enter Tryd.func23, Tryd.ntmps23
    go_wp2_with fail
    refine (toi_n d _ HI.out HV.out he).mono ?_
    rintro e w1 ⟨rfl, hb1⟩
    have H1 := Lib.hid (box3c hb1).2.2
    clear hb1
    go_wp2_with fail
    go_ret
    exact ⟨by rw [HW.out, HNK.out]; simp [HK.out], H1.out⟩
end Go.Proofs.YtmbldgcbnkhabaaDoor
