/- The reference's form of a node, for every operator; and 'right'. -/
import Derived.Test.YtbpdbmjfnbpihaaEx36bE
import Derived.Test.YtbpdbmjfnbpihaaEx36b3
import Derived.Test.YtbpdbmjfnbpihaaEx36b7
import Derived.Test.YtbpdbmjfnbpihaaEx36b12
import Derived.Test.YtbpdbmjfnbpihaaEx36b13
import Derived.Test.YtbpdbmjfnbpihaaEx36b21
import Derived.Test.YtbpdbmjfnbpihaaEx36b23
import Derived.Test.YtbpdbmjfnbpihaaEx36b25
import Derived.Test.YtbpdbmjfnbpihaaBad35
import Derived.WalkSmall
namespace Go.Proofs.Ytbpdbmjfnbpihaa
open Go.RowKit

set_option maxRecDepth 100000 in
theorem form_low (x : ExprD) (w : World) (B N : Nat) (cs : List Value) (he : ExprD.At w B N x cs) (h : x.op < 1 ∨ 29 < x.op) : Calls Try.prog 18 #[.agg cs.toArray] w (FormR x w) := by
  obtain ⟨aa, fa, ac, fc, vs, hh⟩ := he.has
  have H0 := Lib.hid (show Below w.heap.size w (w.alloc (.cells cs.toArray 38)) from belowBox w _)
  have c0 := hh.op
  clear hh he
  rcases h with h | h
  · go_enter Try.func18, Try.ntmps18
    go_wp2_with fail
    go_ret
    exact ⟨_, rfl, fun h => (by cases h), H0.out⟩
  · go_enter Try.func18, Try.ntmps18
    go_wp2_with fail
    go_ret
    exact ⟨_, rfl, fun h => (by cases h), H0.out⟩

theorem form_any (x : ExprD) (w : World) (B N : Nat) (cs : List Value) (hN : N ≤ 4294967296) (hB : B ≤ w.heap.size) (he : ExprD.At w B N x cs) : Calls Try.prog 18 #[.agg cs.toArray] w (FormR x w) := by
  by_cases h1 : x.op < 1 ∨ 29 < x.op
  · exact form_low x w B N cs he h1
  have h2 : 1 ≤ x.op := by omega
  have h3 : x.op ≤ 29 := by omega
  by_cases k3 : x.op = 3
  · exact form_3 x w B N cs hN hB he _ rfl h2 h3 k3
  by_cases k7 : x.op = 7
  · exact form_7 x w B N cs hN hB he _ rfl h2 h3 k7
  by_cases k12 : x.op = 12
  · exact form_12 x w B N cs hN hB he _ rfl h2 h3 k12
  by_cases k13 : x.op = 13
  · exact form_13 x w B N cs hN hB he _ rfl h2 h3 k13
  by_cases k21 : x.op = 21
  · exact form_21 x w B N cs hN hB he _ rfl h2 h3 k21
  by_cases k23 : x.op = 23
  · exact form_23 x w B N cs hN hB he _ rfl h2 h3 k23
  by_cases k25 : x.op = 25
  · exact form_25 x w B N cs hN hB he _ rfl h2 h3 k25
  exact form_E x w B N cs hN hB he _ rfl h2 h3 ⟨by simpa using k3, by simpa using k7, by simpa using k12, by simpa using k13, by simpa using k21, by simpa using k23, by simpa using k25, by simpa using k3, by simpa using k23⟩

set_option maxHeartbeats 3200000 in
theorem right_any (x : ExprD) (w : World) (B N : Nat) (cs : List Value) (hN : N ≤ 1099511627776) (he : ExprD.At w B N x cs) : Calls Try.prog 20 #[.agg cs.toArray] w (SomeBool w) := by
  obtain ⟨aa, fa, ac, fc, vs, hh⟩ := he.has
  have H0 := Lib.hid (show Below w.heap.size w (w.alloc (.cells cs.toArray 38)) from belowBox w _)
  have c0 := hh.op
  have c1 := hh.name
  have hs : x.name.size ≤ 1099511627776 := Nat.le_trans hh.own.2.1 hN
  have hm := Lib.hid (show x.name.size ≤ maxLen by unfold maxLen; omega)
  clear hh he
  go_enter Try.func20, Try.ntmps20
  go_wp2_with (first
    | (go_at_call 33; refine (identR _ _ hm.out).mono ?_; rintro e w' ⟨rfl, rfl⟩))
  all_goals first
    | (go_ret; exact ⟨_, rfl, H0.out⟩)
    | (refine (qual_any _ _ hs).mono ?_
       rintro e w1 ⟨b1, rfl, hb1⟩
       have H1 := Lib.hid (belowThen H0.out hb1)
       clear hb1
       go_wp2_with fail
       go_ret
       exact ⟨_, rfl, H1.out⟩)
    | (refine (bad35 _ _ hs).mono ?_
       rintro e w1 ⟨k1, rfl, _, m, rfl⟩
       have H1 := Lib.hid (_root_.Go.below_drewN H0.out m)
       go_wp2_with fail
       all_goals (go_ret; exact ⟨_, rfl, H1.out⟩))
end Go.Proofs.Ytbpdbmjfnbpihaa
