/- Single of qanalyze and of the reference: both say what the tree's 'single' says. -/
import Derived.Test.YtbpdbmjfnbpihaaSingle43c
namespace Go.Proofs.Ytbpdbmjfnbpihaa
open Go.RowKit

def ElseS (o : Int) : Prop := (o == 1) = false ∧ (o == 3) = false ∧ (o == 4) = false ∧ (o == 24) = false ∧ (o == 29) = false ∧ (o == 5) = false ∧ (o == 6) = false ∧ (o == 7) = false ∧ (o == 9) = false ∧ (o == 11) = false ∧ (o == 12) = false ∧ (o == 13) = false ∧
  (o == 14) = false ∧ (o == 15) = false ∧ (o == 16) = false ∧ (o == 18) = false ∧ (o == 22) = false ∧ (o == 23) = false ∧ (o == 25) = false ∧ (o == 17) = false ∧ (o == 19) = false ∧ (o == 28) = false
theorem classesS (o : Int) : (o = 1 ∨ o = 3 ∨ o = 4 ∨ o = 24 ∨ o = 29) ∨ (o = 5 ∨ o = 6 ∨ o = 7 ∨ o = 9 ∨ o = 11 ∨ o = 12 ∨ o = 13 ∨ o = 14 ∨ o = 15 ∨ o = 16 ∨ o = 18 ∨ o = 22 ∨ o = 23 ∨ o = 25) ∨ o = 17 ∨ (o = 19 ∨ o = 28) ∨ ElseS o := by
  by_cases h1 : o = 1 ∨ o = 3 ∨ o = 4 ∨ o = 24 ∨ o = 29
  · exact .inl h1
  by_cases h2 : o = 5 ∨ o = 6 ∨ o = 7 ∨ o = 9 ∨ o = 11 ∨ o = 12 ∨ o = 13 ∨ o = 14 ∨ o = 15 ∨ o = 16 ∨ o = 18 ∨ o = 22 ∨ o = 23 ∨ o = 25
  · exact .inr (.inl h2)
  by_cases h3 : o = 17
  · exact .inr (.inr (.inl h3))
  by_cases h4 : o = 19 ∨ o = 28
  · exact .inr (.inr (.inr (.inl h4)))
  refine .inr (.inr (.inr (.inr ?_)))
  unfold ElseS
  simp only [beq_eq_false_iff_ne, ne_eq]
  omega
theorem single_else {x : ExprD} (h : ElseS x.op) : single x = false := by
  obtain ⟨h1, h2, h3, h4, h5, h6, h7, h8, h9, h10, h11, h12, h13, h14, h15, h16, h17, h18, h19, h20, h21, h22⟩ := h
  rw [single_eq]
  simp only [beq_eq_false_iff_ne, ne_eq] at h20 h21 h22
  simp [clsT, clsA, h1, h2, h3, h4, h5, h6, h7, h8, h9, h10, h11, h12, h13, h14, h15, h16, h17, h18, h19, h20, h21, h22]

theorem single_17 {x : ExprD} (h : x.op = 17) (hlt : 1 < x.args.length) : single x = ((x.args[1]).op != 30 && allS x.args) := by
  rw [← secondOp_get hlt, single_eq, h]
  simp [clsT, clsA]
theorem single_R {x : ExprD} (h : x.op = 19 ∨ x.op = 28) (hlt : 1 < x.args.length) : single x = single x.args[1] := by
  rw [← secondS_get hlt, single_eq]
  rcases h with h | h <;> simp [h, clsT, clsA]
theorem argsN17 : argsN 17 = 2 := by simp [argsN]
theorem argsN19 : argsN 19 = 3 := by simp [argsN]
theorem argsN28 : argsN 28 = 2 := by simp [argsN]
theorem okE_len {x : ExprD} {o : Int} {n : Nat} (h : okE x) (ho : x.op = o) (hn : argsN o = n) : x.args.length = n := by
  have h1 := (okE_iff.1 h).1
  rw [ho, hn] at h1
  have h2 := h1 (by omega)
  omega

set_option maxHeartbeats 6400000 in
theorem sing10_of (n : Nat) (ih : SingAt 10 n) : SingAt 10 (n + 1) := by
  intro x w B N cs hsz hN hB ho hx
  have IH := Lib.hid ih
  have HO := Lib.hid ho
  have HSz := Lib.hid (show ∀ k (h : k < x.args.length), SizeOf.sizeOf x.args[k] ≤ n from fun k h => by have := sizeOf_arg h; omega)
  have H0 := Lib.hid (show Below w.heap.size w (w.alloc (.cells cs.toArray 38)) from belowBox w _)
  obtain ⟨aa, fa, ac, fc, vs, hh⟩ := hx.has
  have c0 := hh.op
  have c15 := hh.args
  have hal : x.args.length ≤ N := hh.own.2.2.1
  have HA := Lib.hid (hh.atArgs.below (H0.out.mono hB))
  have hB1 := Lib.hid (Nat.le_trans hB H0.out.size)
  clear ih ho hh hx hsz
  rcases classesS x.op with h | h | h | h | h
  · rcases h with h | h | h | h | h
    all_goals
      have HS := Lib.hid (show single x = true by rw [single_eq, h]; rfl)
      rw [h] at c0
      clear h
      go_enter Try.func10, Try.ntmps10
      go_wp2_with fail
      go_ret
      exact ⟨by rw [HS.out]; rfl, H0.out⟩
  · have HK := Lib.hid (show okL x.args from (okE_iff.1 (HO.out.resolve_left (by omega))).2)
    rcases h with h | h | h | h | h | h | h | h | h | h | h | h | h | h
    all_goals
      have HS := Lib.hid (show single x = allS x.args by rw [single_eq, h]; rfl)
      rw [h] at c0
      clear h
      go_enter Try.func10, Try.ntmps10
      go_wp2_with fail
      refine (all_of n IH.out x.args aa ac _ B N HSz.out hN hB1.out hal HK.out HA.out).mono ?_
      rintro e w1 ⟨rfl, hb1⟩
      have H1 := Lib.hid (belowThen H0.out hb1)
      clear hb1
      go_wp2_with fail
      go_ret
      exact ⟨by rw [HS.out]; rfl, H1.out⟩
  · have HK := Lib.hid (okE_iff.1 (HO.out.resolve_left (by omega)))
    have hl2 : x.args.length = 2 := okE_len (HO.out.resolve_left (by omega)) h argsN17
    have hlt : 1 < x.args.length := by omega
    clear hl2
    obtain ⟨b, p, rfl, hb, hget⟩ := HA.out.get (by intro e; simp [e] at hlt)
    obtain ⟨es, g1, g2⟩ := hget 1 hlt
    obtain ⟨aa1, fa1, ac1, fc1, vs1, gh⟩ := g2.has
    have q0 := g1.get0' gh.op
    rw [show p + 1 * 17 = p + 17 by omega] at q0
    have HS := Lib.hid (show single x = ((x.args[1]).op != 30 && allS x.args) from single_17 h hlt)
    rw [h] at c0
    clear h gh g1 g2 hget
    by_cases h30 : (x.args[1]).op = 30
    · have HS2 := Lib.hid (show single x = false by rw [HS.out, h30]; rfl)
      rw [h30] at q0
      clear h30
      go_enter Try.func10, Try.ntmps10
      go_wp2_with fail
      go_ret
      exact ⟨by rw [HS2.out]; rfl, H0.out⟩
    · have h30b : ((x.args[1]).op == 30) = false := by simpa using h30
      have h30n : ((x.args[1]).op != 30) = true := by simpa using h30
      have HS2 := Lib.hid (show single x = allS x.args by rw [HS.out, h30n]; rfl)
      clear h30
      go_enter Try.func10, Try.ntmps10
      go_wp2_with fail
      refine (all_of n IH.out x.args _ ac _ B N HSz.out hN hB1.out hal HK.out.2 HA.out).mono ?_
      rintro e w1 ⟨rfl, hb1⟩
      have H1 := Lib.hid (belowThen H0.out hb1)
      clear hb1
      go_wp2_with fail
      go_ret
      exact ⟨by rw [HS2.out]; rfl, H1.out⟩
  · have HK := Lib.hid (okE_iff.1 (HO.out.resolve_left (by omega)))
    have hlt : 1 < x.args.length := by
      rcases h with h | h
      · have h3 : x.args.length = 3 := okE_len (HO.out.resolve_left (by omega)) h argsN19
        omega
      · have h3 : x.args.length = 2 := okE_len (HO.out.resolve_left (by omega)) h argsN28
        omega
    obtain ⟨b, p, rfl, hb, hget⟩ := HA.out.get (by intro e; simp [e] at hlt)
    obtain ⟨es, g1, g2⟩ := hget 1 hlt
    rw [show p + 1 * 17 = p + 17 by omega] at g1
    have HR := Lib.hid g1.range
    have HE := Lib.hid g2
    have hle := Lib.hid (show (Try.prog.info? 38).map (·.size) = some es.length by rw [g2.len]; exact sizeE)
    have HOk := Lib.hid (okL_get HK.out.2 1 hlt)
    have HSz1 := Lib.hid (HSz.out 1 hlt)
    clear g1 g2 hget
    have HS := Lib.hid (show single x = single x.args[1] from single_R h hlt)
    rcases h with h | h
    all_goals
      rw [h] at c0
      clear h
      go_enter Try.func10, Try.ntmps10
      go_wp2_with (refine wpList_load_mid rfl 38 _ rfl b (p + 17) rfl es _ HR.out Try.underlying38 rfl hle.out ?_)
      refine (IH.out x.args[1] _ B N es HSz1.out hN hB1.out HOk.out HE.out).mono ?_
      rintro e w1 ⟨rfl, hb1⟩
      have H1 := Lib.hid (belowThen H0.out hb1)
      clear hb1
      go_wp2_with fail
      go_ret
      exact ⟨by rw [HS.out]; rfl, H1.out⟩
  · have HS := Lib.hid (single_else h)
    obtain ⟨h1, h2, h3, h4, h5, h6, h7, h8, h9, h10, h11, h12, h13, h14, h15, h16, h17, h18, h19, h20, h21, h22⟩ := h
    go_enter Try.func10, Try.ntmps10
    go_wp2_with fail
    go_ret
    exact ⟨by rw [HS.out]; rfl, H0.out⟩
end Go.Proofs.Ytbpdbmjfnbpihaa
