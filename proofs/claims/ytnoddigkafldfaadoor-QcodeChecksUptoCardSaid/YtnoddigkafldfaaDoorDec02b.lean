/- Valid decimals of the reference (datakitref02.Valid), whole. -/
import Derived.Test.YtnoddigkafldfaaDoorDec02
namespace Go.Proofs.YtnoddigkafldfaaDoor
open Go.RowKit

def Vld2R (d : DecD) (w : World) (e : Ending) (w' : World) : Prop := ∃ b, e = .returned (.bool b) ∧ (b = true → VDec d) ∧ Below w.heap.size w w'
theorem ne_toList {a : ByteArray} (h : 0 < a.size) : ¬ a.toList = [] := by
  intro e
  have h3 : a.toList.length = 0 := by rw [e]; rfl
  rw [ByteArray.toList_eq, Array.length_toList] at h3
  have h4 : a.data.size = a.size := rfl
  omega
theorem toList_nil {a : ByteArray} (h : a.size = 0) : a.toList = [] := by
  have h4 : a.data.size = a.size := rfl
  rw [ByteArray.toList_eq]
  exact List.length_eq_zero_iff.1 (by rw [Array.length_toList]; omega)

set_option maxRecDepth 100000 in
set_option maxHeartbeats 1600000 in
theorem valid02_ex (d : DecD) (w : World) (hs : d.digits.size ≤ maxLen) : Calls Tryd.prog 47 #[.agg #[.bool d.neg, .string d.digits, .int .i64 d.exp]] w (Vld2R d w) := by
  have HS := Lib.hid hs
  by_cases h0 : d.digits.size = 0
  · have hd := toList_nil h0
    have H0 := Lib.hid h0
    clear h0
    by_cases he : d.exp = 0
    · have HE := Lib.hid he
      cases hn : d.neg with
      | false =>
        have HV := Lib.hid (show VDec d from .inl ⟨H0.out, hn, he⟩)
        go_enter Tryd.func47, Tryd.ntmps47
        go_wp2_with fail
        all_goals (go_ret; exact ⟨_, rfl, fun _ => HV.out, Below.box _ _⟩)
      | true =>
        go_enter Tryd.func47, Tryd.ntmps47
        go_wp2_with fail
        all_goals (go_ret; exact ⟨false, rfl, fun h => (by cases h), Below.box _ _⟩)
    · have he1 : (d.exp == 0) = false := by simp [he]
      cases hn : d.neg
      all_goals
        go_enter Tryd.func47, Tryd.ntmps47
        go_wp2_with fail
        all_goals (go_ret; exact ⟨false, rfl, fun h => (by cases h), Below.box _ _⟩)
  · have hp : 0 < d.digits.size := by omega
    have hd := ne_toList hp
    have hd1 : (d.digits.toList == []) = false := by simp [hd]
    have hd2 : d.digits.toList.isEmpty = false := by simp [hd]
    clear h0
    by_cases h120 : d.digits.size ≤ 120
    · by_cases hx : -400 ≤ d.exp ∧ d.exp ≤ 400
      · have HX := Lib.hid hx
        obtain ⟨hx1, hx2⟩ := hx
        go_enter Tryd.func47, Tryd.ntmps47
        go_wp2_with fail
        refine (valid01_ex _ _ HS.out).mono ?_
        rintro e w1 ⟨b, rfl, hv, rfl⟩
        cases b with
        | false =>
          clear hv
          go_wp2_with fail
          go_ret
          exact ⟨false, rfl, fun h => (by cases h), Below.box _ _⟩
        | true =>
          have HV := Lib.hid (hv rfl)
          clear hv
          go_wp2_with fail
          refine (zeros_ex _ _ HS.out).mono ?_
          rintro e w2 ⟨k, rfl, hz, rfl⟩
          by_cases hk : k = 0
          · have HZ := Lib.hid (hz hk)
            clear hz
            subst hk
            go_wp2_with fail
            all_goals
              go_ret
              exact ⟨_, rfl, fun _ => .inr ⟨hp, h120, HV.out.1, HV.out.2.resolve_left (by omega), HZ.out.resolve_left (by omega), HX.out.1, HX.out.2⟩, Below.box _ _⟩
          · have hk1 : (k == 0) = false := by simp [hk]
            clear hz hk
            go_wp2_with fail
            all_goals (go_ret; exact ⟨false, rfl, fun h => (by cases h), Below.box _ _⟩)
      · have hx2 : d.exp < -400 ∨ 400 < d.exp := by omega
        have HX := Lib.hid hx
        clear hx
        go_enter Tryd.func47, Tryd.ntmps47
        go_wp2_with fail
        refine (valid01_ex _ _ HS.out).mono ?_
        rintro e w1 ⟨b, rfl, _, rfl⟩
        cases b
        · go_wp2_with fail
          go_ret
          exact ⟨false, rfl, fun h => (by cases h), Below.box _ _⟩
        · go_wp2_with fail
          refine (zeros_ex _ _ HS.out).mono ?_
          rintro e w2 ⟨k, rfl, _, rfl⟩
          rcases hx2 with hx2 | hx2
          all_goals
            go_wp2_with fail
            all_goals first
              | (go_ret; exact ⟨false, rfl, fun h => (by cases h), Below.box _ _⟩)
              | (go_ret; exact ⟨false, by congr 2; simp; omega, fun h => (by cases h), Below.box _ _⟩)
    · have hgt : ¬ (d.digits.size : Int) ≤ 120 := by omega
      go_enter Tryd.func47, Tryd.ntmps47
      go_wp2_with fail
      all_goals (go_ret; exact ⟨false, rfl, fun h => (by cases h), Below.box _ _⟩)
end Go.Proofs.YtnoddigkafldfaaDoor
