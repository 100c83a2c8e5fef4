/- The reference's form of a node (datakitref36.form): it returns, writes nothing that was there, and where it says yes the node has as many Args as its operator asks. -/
import Derived.Test.YtbpdbmjfnbpihaaEx36b0
namespace Go.Proofs.Ytbpdbmjfnbpihaa
open Go.RowKit

set_option maxRecDepth 100000 in
set_option maxHeartbeats 6400000 in
set_option linter.unusedVariables false in
theorem form_3 (x : ExprD) (w : World) (B N : Nat) (cs : List Value) (hN : N ≤ 4294967296) (hB : B ≤ w.heap.size) (he : ExprD.At w B N x cs) (o : Int) (ho : x.op = o) (h1 : 1 ≤ o) (h29 : o ≤ 29)
    (hc : o = 3) : Calls Try.prog 18 #[.agg cs.toArray] w (FormR x w) := by
  obtain ⟨aa, fa, ac, fc, vs, hh⟩ := he.has
  have H0 := Lib.hid (show Below w.heap.size w (w.alloc (.cells cs.toArray 38)) from belowBox w _)
  have hvr := Lib.hid (show CellsAt (w.alloc (.cells cs.toArray 38)) w.heap.size (0 + 2) vs from hh.valRange (box_at w cs 38))
  have HV := Lib.hid hh.atVal
  have HA := Lib.hid hh.atArgs
  have hl := Lib.hid (show (Try.prog.info? 34).map (·.size) = some vs.length by rw [hh.atVal.len]; exact sizeV)
  have hs0 := Lib.hid (show w.heap.size < (w.alloc (.cells cs.toArray 38)).heap.size by rw [World.size_alloc]; omega)
  have HX := Lib.hid (box_at w cs 38)
  have hlen : x.args.length ≤ N := hh.own.2.2.1
  have hflen : x.funcs.length ≤ N := hh.own.2.2.2
  have c0 := hh.op
  have c1 := hh.name
  have c15 := hh.args
  have c16 := hh.funcs
  rw [ho] at c0
  have HO := Lib.hid ho
  clear hh he ho
  subst hc
  all_goals
    go_enter Try.func18, Try.ntmps18
    go_wp2_with fail
    refine (args_any _ _).mono ?_
    rintro e w1 ⟨n, f, rfl, hn, heq⟩
    rw [heq] at H0 hvr hs0 HX
    clear heq
    have b0 := HX.out.get0 c0
    have b15 := HX.out.get0 c15
    have HF := Lib.hid (show n = (x.args.length : Int) ∨ n < 0 → 0 ≤ argsN x.op → (x.args.length : Int) = argsN x.op by rw [HO.out]; intro h1 h; omega)
    have H7 := Lib.hid (show x.op = 7 → n = 3 by rw [HO.out]; intro h; first | exact hn | (subst h; exact hn) | exact absurd h (by decide))
    clear hn
    by_cases hq : n < 0 ∨ n = (x.args.length : Int)
    case neg =>
      have hq1 : 0 ≤ n := by omega
      have hq2 : (((x.args.length : Nat) : Int) != n) = true := by simp; omega
      clear hq
      go_wp2_with fail
      go_ret
      exact ⟨_, rfl, fun h => (by cases h), H0.out⟩
    have HQ := Lib.hid hq
    clear hq
    by_cases hneg : n < 0
    case' pos =>
      have hn0 : decide (n ≥ 0) = false := by simp; omega
      have HF2 := Lib.hid (HF.out (.inr hneg))
    case' neg =>
      have hn0 : n = (x.args.length : Int) := by have := HQ.out; omega
      have HF2 := Lib.hid (HF.out (.inl hn0))
      subst hn0
    all_goals
      go_wp2_with fail
      all_goals first
        | (go_ret; exact ⟨_, rfl, fun h => (by cases h), H0.out⟩)
        | skip
      all_goals
        go_simp
        clear b0 b15
        go_loopw [5] (fun i wr => ∃ (k : Nat), k ≤ x.args.length ∧ i = .int .i64 k ∧ Below w1.heap.size w1 wr) (fun i _ => x.args.length - (intOf i).toNat)
        case atStart => exact ⟨0, by omega, rfl, Below.refl _ _⟩
        case round =>
          obtain ⟨k, hk, rfl, hbel⟩ := hrel
          have HB := Lib.hid hbel
          have RX := Lib.hid (HX.out.below hbel hs0.out)
          clear hbel
          have d0 := RX.out.get0 c0
          have d1 := RX.out.get0 c1
          have d15 := RX.out.get0 c15
          have d16 := RX.out.get0 c16
          by_cases hlt : k < x.args.length
          · obtain ⟨b, p, rfl, hb, hget⟩ := HA.out.get (by intro h; simp [h] at hlt)
            obtain ⟨es, g1, g2⟩ := hget k hlt
            have gb := Nat.lt_of_lt_of_le hb (Nat.le_trans hB H0.out.size)
            have HR := Lib.hid (((g1.below H0.out (Nat.lt_of_lt_of_le hb hB))).below HB.out gb)
            have HE := Lib.hid ((g2.below (H0.out.mono hB)).below (HB.out.mono (Nat.le_trans hB H0.out.size)))
            have hle := Lib.hid (show (Try.prog.info? 38).map (·.size) = some es.length by rw [g2.len]; exact sizeE)
            obtain ⟨aa1, fa1, ac1, fc1, vs1, gh⟩ := g2.has
            have f0 := gh.op
            clear gh g1 g2 hget gb
            have r0 := HR.out.get0' f0
            by_cases hz : x.args[k].op = 30
            · rw [hz] at f0 r0
              by_cases hkf : (k : Int) < f
              · go_wp2_with fail
                go_ret
                exact ⟨_, rfl, fun h => (by cases h), belowThen H0.out HB.out⟩
              · have hkf' : decide ((k : Int) < f) = false := by simp; omega
                clear hkf
                go_wp2_with (refine wpList_load_mid_g rfl 38 _ rfl b (p + k * 17) rfl es _ HR.out.range Try.underlying38 rfl hle.out ?_)
                refine (absent_any x.args[k] _ B N es (Nat.le_trans hB (Nat.le_trans H0.out.size HB.out.size)) HE.out).mono ?_
                rintro e2 w2 ⟨r2, rfl, hb2⟩
                have HB2 := Lib.hid (belowThen HB.out hb2)
                clear hb2
                cases r2 with
                | true =>
                  go_wp2_with fail
                  go_roundw
                  case rel => exact ⟨k + 1, by omega, by go_num, HB2.out⟩
                  case measure => simp [intOf]; omega
                | false =>
                  go_wp2_with fail
                  go_ret
                  exact ⟨_, rfl, fun h => (by cases h), belowThen H0.out HB2.out⟩
            · have hz' : (x.args[k].op == 30) = false := by simpa using hz
              clear hz
              go_wp2_with fail
              go_roundw
              case rel => exact ⟨k + 1, by omega, by go_num, HB.out⟩
              case measure => simp [intOf]; omega
          · have HVR := Lib.hid ((hvr.out.below HB.out hs0.out).range)
            have HV2 := Lib.hid ((HV.out.below (H0.out.mono hB)).below (HB.out.mono (Nat.le_trans hB H0.out.size)))
            have HT := Lib.hid (belowThen H0.out HB.out)
            have hBr := Lib.hid (Nat.le_trans hB HT.out.size)
            have hsr := Lib.hid (Nat.lt_of_lt_of_le hs0.out HB.out.size)
            clear HF HQ hvr H0 HB HX
            first
              | have h7 := H7.out HO.out
                have hl3 : x.args.length = 3 := by omega
                obtain ⟨b, p, rfl, hb, hget⟩ := HA.out.get (by intro h; simp [h] at hl3)
                obtain ⟨es1, g1, g2⟩ := hget 1 (by omega)
                obtain ⟨es2, g3, g4⟩ := hget 2 (by omega)
                obtain ⟨_, _, _, _, _, gh1⟩ := g2.has
                obtain ⟨_, _, _, _, _, gh2⟩ := g4.has
                have r1 := (g1.below HT.out (Nat.lt_of_lt_of_le hb hB)).get0' gh1.op
                have r2 := (g3.below HT.out (Nat.lt_of_lt_of_le hb hB)).get0' gh2.op
                clear g1 g2 g3 g4 gh1 gh2 hget hb
                rw [show p + 1 * 17 = p + 17 by omega] at r1
                rw [show p + 2 * 17 = p + 34 by omega] at r2
                rw [hl3] at d15 hlt
                by_cases z1 : x.args[1].op = 30
                case' pos =>
                  rw [z1] at r1
                  by_cases z2 : x.args[2].op = 30
                  case' pos =>
                    rw [z2] at r2
                    go_wp2_with fail
                    go_ret
                    exact ⟨_, rfl, fun h => (by cases h), HT.out⟩
                  case' neg =>
                    have z2' : (x.args[2].op == 30) = false := by simpa using z2
                    clear z1 z2
                case' neg =>
                  have z1' : (x.args[1].op == 30) = false := by simpa using z1
                  clear z1
              | skip
            all_goals
              by_cases hfu : 0 < x.funcs.length
              all_goals
                go_wp2_with fail
                refine (named_any _ _).mono ?_
                rintro e w2 ⟨bn, rfl, rfl⟩
                by_cases hnb : bn = false ∧ ¬ x.name.toList = []
                · obtain ⟨rfl, hnm⟩ := hnb
                  go_wp2_with fail
                  go_ret
                  exact ⟨_, rfl, fun h => (by cases h), HT.out⟩
                · have hnb2 : bn = true ∨ (bn = false ∧ x.name.toList = []) := by
                    cases bn
                    · exact .inr ⟨rfl, Classical.byContradiction fun h => hnb ⟨rfl, h⟩⟩
                    · exact .inl rfl
                  clear hnb
                  rcases hnb2 with rfl | ⟨rfl, hnm⟩
                  all_goals
                    go_wp2_with (refine wpList_load_mid_g rfl 34 _ rfl w.heap.size (0 + 2) rfl vs _ HVR.out Try.underlying34 rfl hl.out ?_)
                    first
                      | (go_ret; exact ⟨_, rfl, fun _ => HF2.out, HT.out⟩)
                      | (refine (literal_any x.val _ B N vs HV2.out).mono ?_
                         rintro e3 w3 ⟨bz, rfl, hb3⟩
                         have HT3 := Lib.hid (belowThen HT.out hb3)
                         have k0 := (RX.out.then hb3 hsr.out).get0 c0
                         have k16 := (RX.out.then hb3 hsr.out).get0 c16
                         clear hb3 d0 d1 d15 d16
                         cases bz
                         all_goals
                           go_wp2_with fail
                           go_ret
                           exact ⟨_, rfl, fun _ => HF2.out, HT3.out⟩)
                      | (refine (zero_any x.val _ B N vs HV2.out).mono ?_
                         rintro e3 w3 ⟨bz, rfl, hb3⟩
                         have HT3 := Lib.hid (belowThen HT.out hb3)
                         have k0 := (RX.out.then hb3 hsr.out).get0 c0
                         have k1 := (RX.out.then hb3 hsr.out).get0 c1
                         have k16 := (RX.out.then hb3 hsr.out).get0 c16
                         clear hb3 d0 d1 d15 d16
                         cases bz
                         all_goals
                           go_wp2_with fail
                           first
                             | (go_ret; exact ⟨_, rfl, fun _ => HF2.out, HT3.out⟩)
                             | (refine (oper_any _ _ _).mono ?_
                                rintro e4 w4 ⟨bo, rfl, rfl⟩
                                cases bo
                                all_goals
                                  go_wp2_with fail
                                  go_ret
                                  exact ⟨_, rfl, fun _ => HF2.out, HT3.out⟩))
end Go.Proofs.Ytbpdbmjfnbpihaa
