/- Times and what a value's kind lets it have: the reference's and the program's tests compute the same. -/
import Derived.Test.YtfegnmbdgdjkgaaGreatGF
import Derived.Test.YtfegnmbdgdjkgaaGreatUtfx
import Derived.Deep.Light
import Derived.Test.YtfegnmbdgdjkgaaGreatGD
namespace Go.Proofs.YtfegnmbdgdjkgaaGreat
open Go.RowKit

theorem bool_of {a b : Bool} (h : a = true ↔ b = true) : a = b := Bool.eq_iff_iff.2 h
theorem vtimeB_iff (t : TimeD) : vtimeB t = true ↔ (1 ≤ t.kind ∧ t.kind ≤ 4 ∧ 0 ≤ t.day ∧ t.day ≤ 3652058 ∧ 0 ≤ t.nano ∧ t.nano ≤ 86399999999999 ∧ -1439 ≤ t.offset ∧ t.offset ≤ 1439 ∧ (t.kind = 2 → t.day = 0) ∧ (t.kind = 1 → t.nano = 0) ∧ (t.kind ≠ 4 → t.offset = 0)) := by
  unfold vtimeB
  rw [decide_eq_true_eq]
def dateB (k : Int) : Bool := k == 1 || (k == 3 || k == 4)
def clockB (k : Int) : Bool := k == 2 || (k == 3 || k == 4)
theorem dated_ex (k : Int) (w : World) : Calls Tryz.prog 90 #[.int .i64 k] w fun e w' => e = .returned (.bool (dateB k)) ∧ w = w' := by
  have HD := Lib.hid (show dateB k = (k == 1 || (k == 3 || k == 4)) from rfl)
  by_cases h1 : k = 1 <;> by_cases h2 : k = 3 <;> by_cases h3 : k = 4
  all_goals
    have H1 := Lib.hid h1
    have H2 := Lib.hid h2
    have H3 := Lib.hid h3
    have e1 : (k == 1) = decide (k = 1) := rfl
    clear h1 h2 h3 e1
    go_enter Tryz.func90, Tryz.ntmps90
    go_wp2
    all_goals
      go_ret
      refine ⟨ret_bool (bool_of ?_), rfl⟩
      rw [HD.out]
      have := H1.out
      have := H2.out
      have := H3.out
      simp_all
theorem clocked_ex (k : Int) (w : World) : Calls Tryz.prog 91 #[.int .i64 k] w fun e w' => e = .returned (.bool (clockB k)) ∧ w = w' := by
  have HD := Lib.hid (show clockB k = (k == 2 || (k == 3 || k == 4)) from rfl)
  go_enter Tryz.func91, Tryz.ntmps91
  go_wp2
  all_goals
    go_ret
    refine ⟨ret_bool (bool_of ?_), rfl⟩
    rw [HD.out]
    simp_all
set_option maxRecDepth 100000 in
set_option maxHeartbeats 1600000 in
theorem valid05_ex (t : TimeD) (w : World) : Calls Tryz.prog 82 #[.agg #[.int .i64 t.kind, .int .i64 t.day, .int .i64 t.nano, .int .i64 t.offset]] w (BolR (vtimeB t) w) := by
  have HV := Lib.hid (vtimeB_iff t)
  have HD := Lib.hid (show dateB t.kind = (t.kind == 1 || (t.kind == 3 || t.kind == 4)) from rfl)
  have HC := Lib.hid (show clockB t.kind = (t.kind == 2 || (t.kind == 3 || t.kind == 4)) from rfl)
  go_enter Tryz.func82, Tryz.ntmps82
  go_wp2_with (first | (go_at_call 90; refine (dated_ex _ _).mono ?_; rintro e w' ⟨rfl, rfl⟩) | (go_at_call 91; refine (clocked_ex _ _).mono ?_; rintro e w' ⟨rfl, rfl⟩))
  all_goals
    go_ret
    refine ⟨ret_bool (bool_of ?_), Below.box _ _⟩
    have hv := HV.out
    have hd := HD.out
    have hc := HC.out
    clear HV HD HC
    grind
end Go.Proofs.YtfegnmbdgdjkgaaGreat

/- Decimals: datakitref02.Valid and decimal.Valid: the same test, exactly. -/
namespace Go.Proofs.YtfegnmbdgdjkgaaGreat
open Go.RowKit

theorem zeros_no (s : ByteArray) (w : World) (hs : s.size ≤ maxLen) (hp : 0 < s.size) (h48 : byteI s (s.size - 1) ≠ 48) : Calls Tryz.prog 89 #[.string s] w (NoZeroR w) := by
  unfold maxLen at hs
  have H48 := Lib.hid h48
  clear h48
  go_enter Tryz.func89, Tryz.ntmps89
  go_wp2_with fail
  go_loop [3] (fun i => i = .int .i64 0) (fun i => 1 - (intOf i).toNat)
  case atStart => rfl
  case round =>
    obtain rfl := hrel
    have hi0 : (0 : Int) ≤ (s.size : Int) - 1 := by omega
    have hi1 : (s.size : Int) - 1 < (s.size : Int) := by omega
    have hlt2 : s.size - 1 < s.size := by omega
    have htn : ((s.size : Int) - 1).toNat = s.size - 1 := by omega
    have hb := byteI_eq hlt2
    have q1 : (byteI s (s.size - 1) == 48) = false := by simpa using H48.out
    have q2 : (byteI s (s.size - 1) != 48) = true := by simpa using H48.out
    go_wp2_with fail
    all_goals
      go_ret
      exact ⟨rfl, rfl⟩
theorem dec02_yes (d : DecD) (w : World) (hv : VDec d) : Calls Tryz.prog 81 #[.agg #[.bool d.neg, .string d.digits, .int .i64 d.exp]] w (YesB w) := by
  rcases hv with ⟨h0, hn, he⟩ | ⟨hp, h120, hdg, hf, hlz, he1, he2⟩
  · have hd := toList_nil h0
    clear h0
    go_enter Tryz.func81, Tryz.ntmps81
    go_wp2_with fail
    all_goals (go_ret; exact ⟨rfl, Below.box _ _⟩)
  · have hd := ne_toList hp
    have hd1 : (d.digits.toList == []) = false := by simp [hd]
    have hd2 : d.digits.toList.isEmpty = false := by simp [hd]
    have HD := Lib.hid hdg
    have HL := Lib.hid hlz
    have HF := Lib.hid hf
    clear hdg hlz hf
    go_enter Tryz.func81, Tryz.ntmps81
    go_wp2_with (first
      | (go_at_call 88; refine (valid01_yes _ _ (by omega) HD.out (.inr HF.out)).mono ?_; rintro e w' ⟨rfl, rfl⟩)
      | (go_at_call 89; refine (zeros_no _ _ (by unfold maxLen; omega) hp HL.out).mono ?_; rintro e w' ⟨rfl, rfl⟩))
    all_goals (go_ret; exact ⟨rfl, Below.box _ _⟩)
theorem vdecB_false {d : DecD} (h : vdecB d = false) : ¬ VDec d := fun hv => by
  rw [(vdecB_iff d).2 hv] at h
  cases h
theorem dec02_exact (d : DecD) (w : World) (hs : d.digits.size ≤ maxLen) : Calls Tryz.prog 81 #[.agg #[.bool d.neg, .string d.digits, .int .i64 d.exp]] w (BolR (vdecB d) w) := by
  cases h : vdecB d
  · refine (valid02_ex d w hs).mono ?_
    rintro e w' ⟨b, rfl, hb, hw⟩
    cases b
    · exact ⟨rfl, hw⟩
    · exact absurd (hb rfl) (vdecB_false h)
  · exact dec02_yes d w ((vdecB_iff d).1 h)

/-! ### The program's -/
theorem trim_le (l : List UInt8) (c : UInt8) : (Lib.trimRightB l c).length ≤ l.length := by
  unfold Lib.trimRightB
  rw [List.length_reverse]
  exact Nat.le_trans (List.dropWhile_sublist _).length_le (by simp)
theorem trim_less {s : ByteArray} (hp : 0 < s.size) (h : byteI s (s.size - 1) = 48) : (Lib.trimRightB s.data.toList 48).length < s.size := by
  have hlt : s.size - 1 < s.size := by omega
  have hlen : s.data.toList.length = s.size := by rw [Array.length_toList]; rfl
  have hx : s[s.size - 1] = 48 := by
    rw [← byteI_eq hlt] at h
    exact UInt8.toNat_inj.1 (show s[s.size - 1].toNat = 48 by omega)
  have hl : s.data.toList = s.data.toList.take (s.size - 1) ++ [s[s.size - 1]] := by
    have h1 := (List.take_append_drop (s.size - 1) s.data.toList).symm
    have h2 : s.data.toList.drop (s.size - 1) = [s[s.size - 1]] := by
      rw [List.drop_eq_getElem_cons (by omega), List.drop_eq_nil_of_le (by omega)]
      rfl
    rw [h2] at h1
    exact h1
  unfold Lib.trimRightB
  rw [hl, List.reverse_append, List.reverse_singleton, List.singleton_append, List.dropWhile_cons_of_pos (by simpa using hx), List.length_reverse]
  refine Nat.lt_of_le_of_lt (List.dropWhile_sublist _).length_le ?_
  rw [List.length_reverse, List.length_take]
  omega
def DzrR (s : ByteArray) (w : World) (e : Ending) (w' : World) : Prop := ∃ k : Int, e = .returned (.int .i64 k) ∧ (k = 0 → s.size = 0 ∨ byteI s (s.size - 1) ≠ 48) ∧ w = w'
end Go.Proofs.YtfegnmbdgdjkgaaGreat
