/- datakitref41.named, datakitref41.right: what they give. -/
import Derived.Test.YtnoddigkafldfaaDoorNam41
namespace Go.Proofs.YtnoddigkafldfaaDoor
open Go.RowKit

set_option maxRecDepth 100000 in
set_option maxHeartbeats 6400000 in
theorem named_ref (x : InsD) (w : World) (B N : Nat) (cs : List Value) (hN : N ≤ 1099511627776) (hA : TabAt w) (hx : InsD.At w B N x cs) :
    Calls Tryd.prog 21 #[.agg cs.toArray] w (BolR (namB x) w) := by
  obtain ⟨vs, hh⟩ := hx.has
  have z0 := hh.op
  have z3 := hh.name
  have hsz : x.name.size ≤ 1099511627776 := Nat.le_trans hh.nameN hN
  have R0 := Lib.hid (box_at w cs 40)
  have H0 := Lib.hid (belowBox w (.cells cs.toArray 40))
  have HS := Lib.hid (World.size_alloc w (.cells cs.toArray 40))
  have HA := Lib.hid hA
  clear hh hx hA
  by_cases h7 : x.op = 7
  · rw [h7] at z0
    have HR := Lib.hid (show namB x = (decide (x.name.size ≤ 1024) && validS x.name) by unfold namB; rw [if_pos h7])
    clear h7
    by_cases hs : x.name.size ≤ 1024
    · have hs2 : (x.name.size : Int) ≤ 1024 := by omega
      go_enter Tryd.func21, Tryd.ntmps21
      go_wp2_with fail
      refine (bad35 x.name _ hsz).mono ?_
      rintro e w1 ⟨k, rfl, hk, m, rfl⟩
      have HK := Lib.hid hk
      have HD := Lib.hid (below_drewN (w.alloc (.cells cs.toArray 40)) m)
      clear hk
      by_cases hk0 : k < 0
      · have HV := Lib.hid (HK.out.1 hk0)
        go_wp2_with fail
        go_ret
        exact ⟨ret_bool (by rw [HR.out, HV.out]; simp [hs]), belowThen H0.out HD.out⟩
      · have HV := Lib.hid (show validS x.name = false by
          cases hv : validS x.name
          · rfl
          · exact absurd (HK.out.2 hv) hk0)
        have hk1 := Lib.hid (show 0 ≤ k by omega)
        have hk2 : 0 ≤ k := by omega
        clear hk0
        go_wp2_with fail
        go_ret
        exact ⟨ret_bool (by rw [HR.out, HV.out]; simp; omega), belowThen H0.out HD.out⟩
    · have hs2 : (1024 : Int) < (x.name.size : Int) := by omega
      go_enter Tryd.func21, Tryd.ntmps21
      go_wp2_with fail
      go_ret
      exact ⟨ret_bool (by rw [HR.out]; simp [hs]), H0.out⟩
  by_cases h11 : x.op = 11
  · rw [h11] at z0
    cases hv : plusL.contains x.name.toList
    · have HR := Lib.hid (show namB x = false by unfold namB; rw [if_neg h7, if_pos h11, hv])
      have p0 := not_mem_beq hv [43] (by decide)
      have p1 := not_mem_beq hv [45] (by decide)
      have p2 := not_mem_beq hv [42] (by decide)
      have p3 := not_mem_beq hv [47] (by decide)
      have p4 := not_mem_beq hv [37] (by decide)
      clear h11 hv h7
      go_enter Tryd.func21, Tryd.ntmps21
      go_wp2_with fail
      go_ret
      exact ⟨ret_bool HR.out.symm, H0.out⟩
    · have HR := Lib.hid (show namB x = true by unfold namB; rw [if_neg h7, if_pos h11, hv])
      have hm : x.name.toList ∈ plusL := by simpa using hv
      have hm' : x.name.toList = [43] ∨ x.name.toList = [45] ∨ x.name.toList = [42] ∨ x.name.toList = [47] ∨ x.name.toList = [37] := by simpa [plusL] using hm
      clear h11 hv hm h7
      rcases hm' with he | he | he | he | he
      all_goals
        go_enter Tryd.func21, Tryd.ntmps21
        go_wp2_with fail
        go_ret
        exact ⟨ret_bool HR.out.symm, H0.out⟩
  by_cases h12 : x.op = 12
  · rw [h12] at z0
    cases hv : compL.contains x.name.toList
    · have HR := Lib.hid (show namB x = false by unfold namB; rw [if_neg h7, if_neg h11, if_pos h12, hv])
      have p0 := not_mem_beq hv [61, 61] (by decide)
      have p1 := not_mem_beq hv [33, 61] (by decide)
      have p2 := not_mem_beq hv [60] (by decide)
      have p3 := not_mem_beq hv [60, 61] (by decide)
      have p4 := not_mem_beq hv [62] (by decide)
      have p5 := not_mem_beq hv [62, 61] (by decide)
      clear h12 hv h7 h11
      go_enter Tryd.func21, Tryd.ntmps21
      go_wp2_with fail
      go_ret
      exact ⟨ret_bool HR.out.symm, H0.out⟩
    · have HR := Lib.hid (show namB x = true by unfold namB; rw [if_neg h7, if_neg h11, if_pos h12, hv])
      have hm : x.name.toList ∈ compL := by simpa using hv
      have hm' : x.name.toList = [61, 61] ∨ x.name.toList = [33, 61] ∨ x.name.toList = [60] ∨ x.name.toList = [60, 61] ∨ x.name.toList = [62] ∨ x.name.toList = [62, 61] := by simpa [compL] using hm
      clear h12 hv hm h7 h11
      rcases hm' with he | he | he | he | he | he
      all_goals
        go_enter Tryd.func21, Tryd.ntmps21
        go_wp2_with fail
        go_ret
        exact ⟨ret_bool HR.out.symm, H0.out⟩
  by_cases h13 : x.op = 13
  · rw [h13] at z0
    obtain ⟨b, hb⟩ : ∃ b, ariB x.name.toList = b := ⟨_, rfl⟩
    obtain ⟨n, hn⟩ : ∃ n, ariN x.name.toList = n := ⟨_, rfl⟩
    have HR := Lib.hid (show namB x = b by unfold namB; rw [if_neg h7, if_neg h11, if_neg h12, if_pos h13, hb])
    have HB := Lib.hid hb
    have HNN := Lib.hid hn
    clear h7 h11 h12 h13 hb hn
    go_enter Tryd.func21, Tryd.ntmps21
    go_wp2_with fail
    refine (arity_ref x.name _ (HA.out.below H0.out)).mono ?_
    rintro e w1 ⟨rfl, hb1⟩
    rw [HB.out, HNN.out]
    have H1 := Lib.hid (belowThen H0.out hb1)
    clear hb1
    go_wp2_with fail
    go_ret
    exact ⟨ret_bool HR.out.symm, H1.out⟩
  · obtain ⟨o, ho⟩ : ∃ o, x.op = o := ⟨_, rfl⟩
    have HR := Lib.hid (show namB x = true by unfold namB; rw [if_neg h7, if_neg h11, if_neg h12, if_neg h13])
    rw [ho] at z0 h7 h11 h12 h13
    have q1 : (o == 7) = false := by simpa using h7
    have q2 : (o == 11) = false := by simpa using h11
    have q3 : (o == 12) = false := by simpa using h12
    have q4 : (o == 13) = false := by simpa using h13
    clear h7 h11 h12 h13 ho
    go_enter Tryd.func21, Tryd.ntmps21
    go_wp2_with fail
    go_ret
    exact ⟨ret_bool HR.out.symm, H0.out⟩
theorem refA_kinds (op : Int) : refA op = 0 ∨ refA op = 1 ∨ refA op = 2 ∨ refA op = 3 ∨ refA op = 4 ∨ refA op = 5 := by
  unfold refA
  split
  · simp
  · have := useA_kinds op
    omega
def withR (kind x : Int) (n : Nat) : Bool := if kind = 5 then decide (0 ≤ x ∧ x ≤ 16384) else withB kind x n
theorem withR_eq (op x : Int) (n : Nat) : withR (refA op) x n = withB (useA op) x n := by
  unfold withR refA
  by_cases h : op = 13
  · rw [if_pos h, if_pos rfl, h]
    rfl
  · rw [if_neg h, if_neg (by unfold useA; (repeat' split) <;> decide)]
set_option maxHeartbeats 3200000 in
theorem right_ref (k x : Int) (n : Nat) (w : World) (hk : k = 0 ∨ k = 1 ∨ k = 2 ∨ k = 3 ∨ k = 4 ∨ k = 5) : Calls Tryd.prog 19 #[.int .i64 k, .int .i64 x, .int .i64 n] w (Boo41 (withR k x n) w) := by
  have h0 : 0 ≤ x ∨ x < 0 := by omega
  have h1 : x ≤ 16384 ∨ 16384 < x := by omega
  have h2 : x < n ∨ (n : Int) ≤ x := by omega
  rcases hk with rfl | rfl | rfl | rfl | rfl | rfl
  all_goals
    go_enter Tryd.func19, Tryd.ntmps19
    go_wp2
    all_goals
      go_ret
      refine ⟨ret_bool ?_, rfl⟩
      simp only [withR, withB]
      grind
end Go.Proofs.YtnoddigkafldfaaDoor
