/- What a node is asked for: datakitref36.form and qparse.shape say formB. -/
import Derived.Test.YtfegnmbdgdjkgaaGreatDoorGQ
import Derived.Test.YtfegnmbdgdjkgaaGreatDoorGO
import Derived.Test.YtfegnmbdgdjkgaaGreatDoorGN
import Derived.Test.YtfegnmbdgdjkgaaGreatDoorGP
namespace Go.Proofs.YtfegnmbdgdjkgaaGreatDoor
open Go.RowKit

theorem form_out {x : ExprD} (h : ¬ (1 ≤ x.op ∧ x.op ≤ 29)) : formB x = false := by
  rw [Bool.eq_false_iff]
  intro hf
  obtain ⟨h1, h2, _⟩ := of_decide_eq_true hf
  exact h ⟨h1, h2⟩
set_option maxRecDepth 100000 in
theorem form_r_out (x : ExprD) (w : World) (B N : Nat) (cs : List Value) (he : ExprD.At w B N x cs) (h : ¬ (1 ≤ x.op ∧ x.op ≤ 29)) : Calls Tryz.prog 55 #[.agg cs.toArray] w (BolR (formB x) w) := by
  obtain ⟨aa, fa, ac, fc, vs, hh⟩ := he.has
  have H0 := Lib.hid (show Below w.heap.size w (w.alloc (.cells cs.toArray 34)) from belowBox w _)
  have HF := Lib.hid (form_out h)
  have c0 := hh.op
  clear hh he
  by_cases h1 : x.op < 1
  · clear h
    go_enter Tryz.func55, Tryz.ntmps55
    go_wp2_with fail
    go_ret
    exact ⟨ret_bool HF.out.symm, H0.out⟩
  · have h2 : 29 < x.op := by omega
    have h3 : 1 ≤ x.op := by omega
    clear h h1
    go_enter Tryz.func55, Tryz.ntmps55
    go_wp2_with fail
    go_ret
    exact ⟨ret_bool HF.out.symm, H0.out⟩
set_option maxRecDepth 100000 in
theorem shape_p_out (x : ExprD) (w : World) (B N : Nat) (cs : List Value) (hN : N ≤ 1073741824) (he : ExprD.At w B N x cs) (h : ¬ (1 ≤ x.op ∧ x.op ≤ 29)) : Calls Tryz.prog 42 #[.agg cs.toArray] w (BolR (formB x) w) := by
  obtain ⟨aa, fa, ac, fc, vs, hh⟩ := he.has
  have hlen : x.args.length ≤ N := hh.own.2.2.1
  have H0 := Lib.hid (show Below w.heap.size w (w.alloc (.cells cs.toArray 34)) from belowBox w _)
  have HF := Lib.hid (form_out h)
  have HC := Lib.hid (show cntP x.op x.args.length = false by unfold cntP; rw [decide_eq_false_iff_not]; omega)
  have c0 := hh.op
  have c15 := hh.args
  clear hh he h
  go_enter Tryz.func42, Tryz.ntmps42
  go_wp2_with fail
  refine (count_p _ x.args.length (by omega) _).mono ?_
  rintro e w1 ⟨rfl, rfl⟩
  rw [HC.out]
  go_wp2_with fail
  go_ret
  exact ⟨ret_bool HF.out.symm, H0.out⟩
theorem form_r (x : ExprD) (w : World) (B N : Nat) (cs : List Value) (hN : N ≤ 1073741824) (hB : B ≤ w.heap.size) (he : ExprD.At w B N x cs) : Calls Tryz.prog 55 #[.agg cs.toArray] w (BolR (formB x) w) := by
  by_cases h : 1 ≤ x.op ∧ x.op ≤ 29
  · by_cases h3 : x.op = 3
    · exact form_r_3 x w B N cs hN hB he h3
    by_cases h7 : x.op = 7
    · exact form_r_7 x w B N cs hN hB he h7
    by_cases h12 : x.op = 12
    · exact form_r_12 x w B N cs hN hB he h12
    by_cases h13 : x.op = 13
    · exact form_r_13 x w B N cs hN hB he h13
    by_cases h21 : x.op = 21
    · exact form_r_21 x w B N cs hN hB he h21
    by_cases h23 : x.op = 23
    · exact form_r_23 x w B N cs hN hB he h23
    by_cases h25 : x.op = 25
    · exact form_r_25 x w B N cs hN hB he h25
    exact form_r_E x w B N cs hN hB he h (ElseO.mk' h3 h7 h12 h13 h21 h23 h25)
  · exact form_r_out x w B N cs he h
theorem shape_p (x : ExprD) (w : World) (B N : Nat) (cs : List Value) (hN : N ≤ 1073741824) (hB : B ≤ w.heap.size) (he : ExprD.At w B N x cs) (hsm : x.args.length ≤ 65536) : Calls Tryz.prog 42 #[.agg cs.toArray] w (BolR (formB x) w) := by
  by_cases h : 1 ≤ x.op ∧ x.op ≤ 29
  · by_cases h3 : x.op = 3
    · exact shape_p_3 x w B N cs hN hB he h3 hsm
    by_cases h7 : x.op = 7
    · exact shape_p_7 x w B N cs hN hB he h7 hsm
    by_cases h12 : x.op = 12
    · exact shape_p_12 x w B N cs hN hB he h12 hsm
    by_cases h13 : x.op = 13
    · exact shape_p_13 x w B N cs hN hB he h13 hsm
    by_cases h21 : x.op = 21
    · exact shape_p_21 x w B N cs hN hB he h21 hsm
    by_cases h23 : x.op = 23
    · exact shape_p_23 x w B N cs hN hB he h23 hsm
    by_cases h25 : x.op = 25
    · exact shape_p_25 x w B N cs hN hB he h25 hsm
    exact shape_p_E x w B N cs hN hB he h (ElseO.mk' h3 h7 h12 h13 h21 h23 h25) hsm
  · exact shape_p_out x w B N cs hN he h
end Go.Proofs.YtfegnmbdgdjkgaaGreatDoor
