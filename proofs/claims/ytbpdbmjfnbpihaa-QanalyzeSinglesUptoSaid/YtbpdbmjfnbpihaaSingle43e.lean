/- Single of the reference says what the tree's 'single' says; and both of every expression. -/
import Derived.Test.YtbpdbmjfnbpihaaSingle43d
namespace Go.Proofs.Ytbpdbmjfnbpihaa
open Go.RowKit

set_option maxHeartbeats 6400000 in
theorem sing11_of (n : Nat) (ih : SingAt 11 n) : SingAt 11 (n + 1) := by
  intro x w B N cs hsz hN hB ho hx
  have IH := Lib.hid ih
  have HO := Lib.hid ho
  have HSz := Lib.hid (show ∀ k (h : k < x.args.length), SizeOf.sizeOf x.args[k] ≤ n from fun k h => by have := sizeOf_arg h; omega)
  have H0 := Lib.hid (show Below w.heap.size w (w.alloc (.cells cs.toArray 38)) from belowBox w _)
  have HX := Lib.hid (hx.below (H0.out.mono hB))
  have R0 := Lib.hid (box_at w cs 38)
  have hl := Lib.hid (show (Try.prog.info? 38).map (·.size) = some cs.length by rw [hx.len]; exact sizeE)
  obtain ⟨aa, fa, ac, fc, vs, hh⟩ := hx.has
  have c0 := hh.op
  have c15 := hh.args
  have hal : x.args.length ≤ N := hh.own.2.2.1
  have HA := Lib.hid (hh.atArgs.below (H0.out.mono hB))
  have hB1 := Lib.hid (Nat.le_trans hB H0.out.size)
  clear ih ho hh hx hsz
  rcases classesS x.op with h | h | h | h | h
  · rcases h with h | h | h | h | h
    all_goals
      have HS := Lib.hid (show single x = true by rw [single_eq, h]; rfl)
      rw [h] at c0
      clear h
      go_enter Try.func11, Try.ntmps11
      go_wp2_with fail
      go_ret
      exact ⟨by rw [HS.out]; rfl, H0.out⟩
  · have HK := Lib.hid (show okL x.args from (okE_iff.1 (HO.out.resolve_left (by omega))).2)
    rcases h with h | h | h | h | h | h | h | h | h | h | h | h | h | h
    all_goals
      have HS := Lib.hid (show single x = allS x.args by rw [single_eq, h]; rfl)
      rw [h] at c0
      clear h
      go_enter Try.func11, Try.ntmps11
      go_wp2_with (refine wpList_load_mid rfl 38 _ rfl w.heap.size 0 rfl cs _ R0.out.range Try.underlying38 rfl hl.out ?_)
      refine (all43_of n IH.out x _ B N cs HSz.out hN hB1.out HK.out HX.out).mono ?_
      rintro e w1 ⟨rfl, hb1⟩
      have H1 := Lib.hid (belowThen H0.out hb1)
      clear hb1
      go_wp2_with fail
      go_ret
      exact ⟨by rw [HS.out]; rfl, H1.out⟩
  · have HK := Lib.hid (okE_iff.1 (HO.out.resolve_left (by omega)))
    have hl2 : x.args.length = 2 := okE_len (HO.out.resolve_left (by omega)) h argsN17
    have hlt : 1 < x.args.length := by omega
    clear hl2
    obtain ⟨b, p, rfl, hb, hget⟩ := HA.out.get (by intro e; simp [e] at hlt)
    obtain ⟨es, g1, g2⟩ := hget 1 hlt
    obtain ⟨aa1, fa1, ac1, fc1, vs1, gh⟩ := g2.has
    have q0 := g1.get0' gh.op
    rw [show p + 1 * 17 = p + 17 by omega] at q0
    have HS := Lib.hid (show single x = ((x.args[1]).op != 30 && allS x.args) from single_17 h hlt)
    rw [h] at c0
    clear h gh g1 g2 hget
    by_cases h30 : (x.args[1]).op = 30
    · have HS2 := Lib.hid (show single x = false by rw [HS.out, h30]; rfl)
      rw [h30] at q0
      clear h30
      go_enter Try.func11, Try.ntmps11
      go_wp2_with fail
      go_ret
      exact ⟨by rw [HS2.out]; rfl, H0.out⟩
    · have h30b : ((x.args[1]).op == 30) = false := by simpa using h30
      have h30n : ((x.args[1]).op != 30) = true := by simpa using h30
      have HS2 := Lib.hid (show single x = allS x.args by rw [HS.out, h30n]; rfl)
      clear h30
      go_enter Try.func11, Try.ntmps11
      go_wp2_with (refine wpList_load_mid_g rfl 38 _ rfl w.heap.size 0 rfl cs _ R0.out.range Try.underlying38 rfl hl.out ?_)
      refine (all43_of n IH.out x _ B N cs HSz.out hN hB1.out HK.out.2 HX.out).mono ?_
      rintro e w1 ⟨rfl, hb1⟩
      have H1 := Lib.hid (belowThen H0.out hb1)
      clear hb1
      go_wp2_with fail
      go_ret
      exact ⟨by rw [HS2.out]; rfl, H1.out⟩
  · have HK := Lib.hid (okE_iff.1 (HO.out.resolve_left (by omega)))
    have hlt : 1 < x.args.length := by
      rcases h with h | h
      · have h3 : x.args.length = 3 := okE_len (HO.out.resolve_left (by omega)) h argsN19
        omega
      · have h3 : x.args.length = 2 := okE_len (HO.out.resolve_left (by omega)) h argsN28
        omega
    obtain ⟨b, p, rfl, hb, hget⟩ := HA.out.get (by intro e; simp [e] at hlt)
    obtain ⟨es, g1, g2⟩ := hget 1 hlt
    rw [show p + 1 * 17 = p + 17 by omega] at g1
    have HR := Lib.hid g1.range
    have HE := Lib.hid g2
    have hle := Lib.hid (show (Try.prog.info? 38).map (·.size) = some es.length by rw [g2.len]; exact sizeE)
    have HOk := Lib.hid (okL_get HK.out.2 1 hlt)
    have HSz1 := Lib.hid (HSz.out 1 hlt)
    clear g1 g2 hget
    have HS := Lib.hid (show single x = single x.args[1] from single_R h hlt)
    rcases h with h | h
    all_goals
      rw [h] at c0
      clear h
      go_enter Try.func11, Try.ntmps11
      go_wp2_with (refine wpList_load_mid rfl 38 _ rfl b (p + 17) rfl es _ HR.out Try.underlying38 rfl hle.out ?_)
      refine (IH.out x.args[1] _ B N es HSz1.out hN hB1.out HOk.out HE.out).mono ?_
      rintro e w1 ⟨rfl, hb1⟩
      have H1 := Lib.hid (belowThen H0.out hb1)
      clear hb1
      go_wp2_with fail
      go_ret
      exact ⟨by rw [HS.out]; rfl, H1.out⟩
  · have HS := Lib.hid (single_else h)
    obtain ⟨h1, h2, h3, h4, h5, h6, h7, h8, h9, h10, h11, h12, h13, h14, h15, h16, h17, h18, h19, h20, h21, h22⟩ := h
    go_enter Try.func11, Try.ntmps11
    go_wp2_with fail
    go_ret
    exact ⟨by rw [HS.out]; rfl, H0.out⟩
theorem sing10_any : ∀ n, SingAt 10 n
  | 0 => fun x _ _ _ _ h => absurd h (by cases x; simp)
  | n + 1 => sing10_of n (sing10_any n)
theorem sing11_any : ∀ n, SingAt 11 n
  | 0 => fun x _ _ _ _ h => absurd h (by cases x; simp)
  | n + 1 => sing11_of n (sing11_any n)
end Go.Proofs.Ytbpdbmjfnbpihaa
