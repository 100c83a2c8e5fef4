/- datakitref36.form: what it asks of a node, by class of operator (printed by gen36.py). -/
import Derived.Test.YtfegnmbdgdjkgaaGreatDoorGI
import Derived.Test.YtfegnmbdgdjkgaaGreatDoorGJ
import Derived.Deep.WholeRow
namespace Go.Proofs.YtfegnmbdgdjkgaaGreatDoor
open Go.RowKit

set_option maxRecDepth 100000 in
set_option maxHeartbeats 6400000 in
set_option linter.unusedVariables false in
theorem form_r_12 (x : ExprD) (w : World) (B N : Nat) (cs : List Value) (hN : N ≤ 1073741824) (hB : B ≤ w.heap.size) (he : ExprD.At w B N x cs) (ho : x.op = 12) : Calls Tryz.prog 55 #[.agg cs.toArray] w (BolR (formB x) w) := by
  obtain ⟨aa, fa, ac, fc, vs, hh⟩ := he.has
  have H0 := Lib.hid (show Below w.heap.size w (w.alloc (.cells cs.toArray 34)) from belowBox w _)
  have hvr := Lib.hid (show CellsAt (w.alloc (.cells cs.toArray 34)) w.heap.size (0 + 2) vs from hh.valRange (box_at w cs 34))
  have HV := Lib.hid hh.atVal
  have HA := Lib.hid hh.atArgs
  have hl := Lib.hid (show (Tryz.prog.info? 31).map (·.size) = some vs.length by rw [hh.atVal.len]; exact sizeV)
  have hs0 := Lib.hid (show w.heap.size < (w.alloc (.cells cs.toArray 34)).heap.size by rw [World.size_alloc]; omega)
  have HX := Lib.hid (box_at w cs 34)
  have hlen : x.args.length ≤ N := hh.own.2.2.1
  have hflen : x.funcs.length ≤ N := hh.own.2.2.2
  have c0 := hh.op
  have c1 := hh.name
  have c15 := hh.args
  have c16 := hh.funcs
  have H1 := Lib.hid (show 1 ≤ x.op ∧ x.op ≤ 29 by omega)
  have H30 := Lib.hid (show 1 ≤ (12 : Int) ∧ (12 : Int) ≤ 30 by omega)
  have HO := Lib.hid ho
  rw [ho] at c0
  clear hh he ho
  obtain ⟨n, hn⟩ : ∃ n, numE 12 = n := ⟨_, rfl⟩
  have hn0 : 0 ≤ n := by rw [← hn]; decide
  have HNE := Lib.hid hn
  have HCN := Lib.hid (show cntP x.op x.args.length = true ↔ (x.args.length : Int) = n from by rw [cnt_num H1.out (by rw [HO.out, hn]; exact hn0), HO.out, hn])
  obtain ⟨f, hf⟩ : ∃ f : Int, (optE x.op : Int) = f := ⟨_, rfl⟩
  have HFE := Lib.hid (show frmE 12 = f by rw [← HO.out, frm_opt H1.out, hf])
  have HOE := Lib.hid hf
  clear hn hf
  go_enter Tryz.func55, Tryz.ntmps55
  go_wp2_with fail
  refine (args_r _ _ H30.out).mono ?_
  rintro e w1 ⟨rfl, heq⟩
  rw [← heq] at H0 hvr hs0 HX
  clear heq
  rw [HNE.out, HFE.out]
  have b0 := HX.out.get0 c0
  have b15 := HX.out.get0 c15
  by_cases hcnt : cntP x.op x.args.length = true
  case neg =>
    have HF := Lib.hid (form_bad_cnt (by simpa using hcnt))
    have hq : ¬ _ := fun h => hcnt (HCN.out.2 h)
    clear hcnt
    have q1 : (((x.args.length : Nat) : Int) != n) = true := by simp; omega
    clear hq
    go_wp2_with fail
    go_ret
    exact ⟨ret_bool HF.out.symm, H0.out⟩
  have HCT := Lib.hid hcnt
  have hq := HCN.out.1 hcnt
  clear hcnt
  obtain rfl : n = (x.args.length : Int) := hq.symm
  clear hq
  go_wp2_with fail
  go_simp
  clear b0 b15
  go_loopw [5] (fun i wr => ∃ (k : Nat), k ≤ x.args.length ∧ i = .int .i64 k ∧ (∀ j, j < k → argB x.op x.args j = true) ∧ Below w1.heap.size w1 wr) (fun i _ => x.args.length - (intOf i).toNat)
  case atStart => exact ⟨0, by omega, rfl, fun j hj => absurd hj (by omega), Below.refl _ _⟩
  case round =>
    obtain ⟨k, hk, rfl, hall, hbel⟩ := hrel
    have HB := Lib.hid hbel
    have HALL := Lib.hid hall
    have RX := Lib.hid (HX.out.below HB.out hs0.out)
    clear hbel hall
    have d0 := RX.out.get0 c0
    have d1 := RX.out.get0 c1
    have d15 := RX.out.get0 c15
    have d16 := RX.out.get0 c16
    by_cases hlt : k < x.args.length
    · have HG := Lib.hid (argB_get x.op hlt)
      have HBA := Lib.hid (fun h => form_bad_arg (x := x) hlt h)
      obtain ⟨b, p, rfl, hb, hget⟩ := HA.out.get (by intro h; simp [h] at hlt)
      obtain ⟨es, g1, g2⟩ := hget k hlt
      have gb := Nat.lt_of_lt_of_le hb (Nat.le_trans hB H0.out.size)
      have HR := Lib.hid (((g1.below H0.out (Nat.lt_of_lt_of_le hb hB))).below HB.out gb)
      have HE := Lib.hid ((g2.below (H0.out.mono hB)).below (HB.out.mono (Nat.le_trans hB H0.out.size)))
      have hle := Lib.hid (show (Tryz.prog.info? 34).map (·.size) = some es.length by rw [g2.len]; exact sizeE)
      obtain ⟨aa1, fa1, ac1, fc1, vs1, gh⟩ := g2.has
      have f0 := gh.op
      clear gh g1 g2 hget gb
      have r0 := HR.out.get0' f0
      by_cases hz : x.args[k].op = 30
      · have HZ := Lib.hid hz
        rw [hz] at f0 r0
        clear hz
        by_cases hkf : (k : Int) < f
        · have HF := Lib.hid (HBA.out (by rw [HG.out, if_pos HZ.out]; have : ¬ optE x.op ≤ k := by have := HOE.out; omega
                                          simp [this]))
          go_wp2_with fail
          go_ret
          exact ⟨ret_bool HF.out.symm, belowThen H0.out HB.out⟩
        · have hkf' : decide ((k : Int) < f) = false := by simp; omega
          have hfk : optE x.op ≤ k := by have := HOE.out; omega
          have HKF := Lib.hid hfk
          clear hkf hfk
          go_wp2_with (refine wpList_load_mid_e rfl 34 _ rfl b (p + k * 17) rfl es _ HR.out.range Tryz.underlying34 rfl hle.out ?_)
          refine (absent_r x.args[k] _ B N es (Nat.le_trans hB (Nat.le_trans H0.out.size HB.out.size)) HE.out).mono ?_
          rintro e2 w2 ⟨rfl, hb2⟩
          have HB2 := Lib.hid (belowThen HB.out hb2)
          clear hb2
          obtain ⟨v, hv⟩ : ∃ v, absB x.args[k] = v := ⟨_, rfl⟩
          have HGV := Lib.hid (show argB x.op x.args k = v by rw [HG.out, if_pos HZ.out, hv]; simp [HKF.out])
          rw [hv]
          clear hv
          cases v with
          | true =>
            go_wp2_with fail
            go_roundw
            case rel => exact ⟨k + 1, by omega, by go_num, fun j hj => (by
              by_cases hjk : j = k
              · rw [hjk]; exact HGV.out
              · exact HALL.out j (by omega)), HB2.out⟩
            case measure => simp [intOf]; omega
          | false =>
            have HF := Lib.hid (HBA.out HGV.out)
            go_wp2_with fail
            go_ret
            exact ⟨ret_bool HF.out.symm, belowThen H0.out HB2.out⟩
      · have HGV := Lib.hid (show argB x.op x.args k = true by rw [HG.out, if_neg hz])
        have hz' : (x.args[k].op == 30) = false := by simpa using hz
        clear hz
        go_wp2_with fail
        go_roundw
        case rel => exact ⟨k + 1, by omega, by go_num, fun j hj => (by
          by_cases hjk : j = k
          · rw [hjk]; exact HGV.out
          · exact HALL.out j (by omega)), HB.out⟩
        case measure => simp [intOf]; omega
    · have HVR := Lib.hid ((hvr.out.below HB.out hs0.out).range)
      have HV2 := Lib.hid ((HV.out.below (H0.out.mono hB)).below (HB.out.mono (Nat.le_trans hB H0.out.size)))
      have HT := Lib.hid (belowThen H0.out HB.out)
      have hBr := Lib.hid (Nat.le_trans hB HT.out.size)
      have hsr := Lib.hid (Nat.lt_of_lt_of_le hs0.out HB.out.size)
      have HFO := Lib.hid (form_12 HO.out HCT.out (args_all fun j hj => HALL.out j (by omega)))
      have HL7 := Lib.hid (show True from trivial)
      clear hvr H0 HB HX HNE HCN HOE HFE HALL
      obtain ⟨z, hz⟩ : ∃ z, zeroB x.val = z := ⟨_, rfl⟩
      have HZ := Lib.hid hz
      rw [hz] at HFO
      clear hz
      have HHS := Lib.hid (show hasB 12 = true by decide)
      obtain ⟨q, hq⟩ : ∃ b, operB 12 x.name.toList = b := ⟨_, rfl⟩
      have HQ := Lib.hid hq
      rw [hq] at HFO
      clear hq
      go_wp2_with fail
      refine (named_r _ _ H30.out).mono ?_
      rintro e w2 ⟨rfl, rfl⟩
      rw [HHS.out]
      all_goals
        go_wp2_with (refine wpList_load_mid_e rfl 31 _ rfl w.heap.size (0 + 2) rfl vs _ HVR.out Tryz.underlying31 rfl hl.out ?_)
        all_goals first
          | (go_ret
             refine ⟨ret_bool (bool_of ?_), by with_reducible first | exact HT.out | exact HT.out⟩
             have hv := HFO.out
             rw [hv]
             clear hv HFO
             first | (simp [*]; done) | (simp; omega) | grind)
          | (refine (zero_r x.val _ B N vs HV2.out).mono ?_
             rintro e3 w3 ⟨rfl, hb3⟩
             have HT3 := Lib.hid (belowThen HT.out hb3)
             have k0 := (RX.out.then hb3 hsr.out).get0 c0
             have k1 := (RX.out.then hb3 hsr.out).get0 c1
             have k16 := (RX.out.then hb3 hsr.out).get0 c16
             clear hb3 d0 d1 d15 d16
             rw [HZ.out]
             cases z
             all_goals
               go_wp2_with fail
               all_goals first
                 | (go_ret
                    refine ⟨ret_bool (bool_of ?_), by with_reducible first | exact HT3.out | exact HT.out⟩
                    have hv := HFO.out
                    rw [hv]
                    clear hv HFO
                    first | (simp [*]; done) | (simp; omega) | grind)
                 | (refine (operator_r12 x.name _).mono ?_
                    rintro e4 w4 ⟨rfl, rfl⟩
                    rw [HQ.out]
                    cases q
                    all_goals
                      go_wp2_with fail
                      all_goals
                        (go_ret
                         refine ⟨ret_bool (bool_of ?_), by with_reducible first | exact HT3.out | exact HT.out⟩
                         have hv := HFO.out
                         rw [hv]
                         clear hv HFO
                         first | (simp [*]; done) | (simp; omega) | grind)
                   ))
end Go.Proofs.YtfegnmbdgdjkgaaGreatDoor

/- datakitref36.form: what it asks of a node, by class of operator (printed by gen36.py). -/
namespace Go.Proofs.YtfegnmbdgdjkgaaGreatDoor
open Go.RowKit

set_option maxRecDepth 100000 in
set_option maxHeartbeats 6400000 in
set_option linter.unusedVariables false in
theorem form_r_13 (x : ExprD) (w : World) (B N : Nat) (cs : List Value) (hN : N ≤ 1073741824) (hB : B ≤ w.heap.size) (he : ExprD.At w B N x cs) (ho : x.op = 13) : Calls Tryz.prog 55 #[.agg cs.toArray] w (BolR (formB x) w) := by
  obtain ⟨aa, fa, ac, fc, vs, hh⟩ := he.has
  have H0 := Lib.hid (show Below w.heap.size w (w.alloc (.cells cs.toArray 34)) from belowBox w _)
  have hvr := Lib.hid (show CellsAt (w.alloc (.cells cs.toArray 34)) w.heap.size (0 + 2) vs from hh.valRange (box_at w cs 34))
  have HV := Lib.hid hh.atVal
  have HA := Lib.hid hh.atArgs
  have hl := Lib.hid (show (Tryz.prog.info? 31).map (·.size) = some vs.length by rw [hh.atVal.len]; exact sizeV)
  have hs0 := Lib.hid (show w.heap.size < (w.alloc (.cells cs.toArray 34)).heap.size by rw [World.size_alloc]; omega)
  have HX := Lib.hid (box_at w cs 34)
  have hlen : x.args.length ≤ N := hh.own.2.2.1
  have hflen : x.funcs.length ≤ N := hh.own.2.2.2
  have c0 := hh.op
  have c1 := hh.name
  have c15 := hh.args
  have c16 := hh.funcs
  have H1 := Lib.hid (show 1 ≤ x.op ∧ x.op ≤ 29 by omega)
  have H30 := Lib.hid (show 1 ≤ (13 : Int) ∧ (13 : Int) ≤ 30 by omega)
  have HO := Lib.hid ho
  rw [ho] at c0
  clear hh he ho
  obtain ⟨n, hn⟩ : ∃ n, numE 13 = n := ⟨_, rfl⟩
  have hn0 : 0 ≤ n := by rw [← hn]; decide
  have HNE := Lib.hid hn
  have HCN := Lib.hid (show cntP x.op x.args.length = true ↔ (x.args.length : Int) = n from by rw [cnt_num H1.out (by rw [HO.out, hn]; exact hn0), HO.out, hn])
  obtain ⟨f, hf⟩ : ∃ f : Int, (optE x.op : Int) = f := ⟨_, rfl⟩
  have HFE := Lib.hid (show frmE 13 = f by rw [← HO.out, frm_opt H1.out, hf])
  have HOE := Lib.hid hf
  clear hn hf
  go_enter Tryz.func55, Tryz.ntmps55
  go_wp2_with fail
  refine (args_r _ _ H30.out).mono ?_
  rintro e w1 ⟨rfl, heq⟩
  rw [← heq] at H0 hvr hs0 HX
  clear heq
  rw [HNE.out, HFE.out]
  have b0 := HX.out.get0 c0
  have b15 := HX.out.get0 c15
  by_cases hcnt : cntP x.op x.args.length = true
  case neg =>
    have HF := Lib.hid (form_bad_cnt (by simpa using hcnt))
    have hq : ¬ _ := fun h => hcnt (HCN.out.2 h)
    clear hcnt
    have q1 : (((x.args.length : Nat) : Int) != n) = true := by simp; omega
    clear hq
    go_wp2_with fail
    go_ret
    exact ⟨ret_bool HF.out.symm, H0.out⟩
  have HCT := Lib.hid hcnt
  have hq := HCN.out.1 hcnt
  clear hcnt
  obtain rfl : n = (x.args.length : Int) := hq.symm
  clear hq
  go_wp2_with fail
  go_simp
  clear b0 b15
  go_loopw [5] (fun i wr => ∃ (k : Nat), k ≤ x.args.length ∧ i = .int .i64 k ∧ (∀ j, j < k → argB x.op x.args j = true) ∧ Below w1.heap.size w1 wr) (fun i _ => x.args.length - (intOf i).toNat)
  case atStart => exact ⟨0, by omega, rfl, fun j hj => absurd hj (by omega), Below.refl _ _⟩
  case round =>
    obtain ⟨k, hk, rfl, hall, hbel⟩ := hrel
    have HB := Lib.hid hbel
    have HALL := Lib.hid hall
    have RX := Lib.hid (HX.out.below HB.out hs0.out)
    clear hbel hall
    have d0 := RX.out.get0 c0
    have d1 := RX.out.get0 c1
    have d15 := RX.out.get0 c15
    have d16 := RX.out.get0 c16
    by_cases hlt : k < x.args.length
    · have HG := Lib.hid (argB_get x.op hlt)
      have HBA := Lib.hid (fun h => form_bad_arg (x := x) hlt h)
      obtain ⟨b, p, rfl, hb, hget⟩ := HA.out.get (by intro h; simp [h] at hlt)
      obtain ⟨es, g1, g2⟩ := hget k hlt
      have gb := Nat.lt_of_lt_of_le hb (Nat.le_trans hB H0.out.size)
      have HR := Lib.hid (((g1.below H0.out (Nat.lt_of_lt_of_le hb hB))).below HB.out gb)
      have HE := Lib.hid ((g2.below (H0.out.mono hB)).below (HB.out.mono (Nat.le_trans hB H0.out.size)))
      have hle := Lib.hid (show (Tryz.prog.info? 34).map (·.size) = some es.length by rw [g2.len]; exact sizeE)
      obtain ⟨aa1, fa1, ac1, fc1, vs1, gh⟩ := g2.has
      have f0 := gh.op
      clear gh g1 g2 hget gb
      have r0 := HR.out.get0' f0
      by_cases hz : x.args[k].op = 30
      · have HZ := Lib.hid hz
        rw [hz] at f0 r0
        clear hz
        by_cases hkf : (k : Int) < f
        · have HF := Lib.hid (HBA.out (by rw [HG.out, if_pos HZ.out]; have : ¬ optE x.op ≤ k := by have := HOE.out; omega
                                          simp [this]))
          go_wp2_with fail
          go_ret
          exact ⟨ret_bool HF.out.symm, belowThen H0.out HB.out⟩
        · have hkf' : decide ((k : Int) < f) = false := by simp; omega
          have hfk : optE x.op ≤ k := by have := HOE.out; omega
          have HKF := Lib.hid hfk
          clear hkf hfk
          go_wp2_with (refine wpList_load_mid_e rfl 34 _ rfl b (p + k * 17) rfl es _ HR.out.range Tryz.underlying34 rfl hle.out ?_)
          refine (absent_r x.args[k] _ B N es (Nat.le_trans hB (Nat.le_trans H0.out.size HB.out.size)) HE.out).mono ?_
          rintro e2 w2 ⟨rfl, hb2⟩
          have HB2 := Lib.hid (belowThen HB.out hb2)
          clear hb2
          obtain ⟨v, hv⟩ : ∃ v, absB x.args[k] = v := ⟨_, rfl⟩
          have HGV := Lib.hid (show argB x.op x.args k = v by rw [HG.out, if_pos HZ.out, hv]; simp [HKF.out])
          rw [hv]
          clear hv
          cases v with
          | true =>
            go_wp2_with fail
            go_roundw
            case rel => exact ⟨k + 1, by omega, by go_num, fun j hj => (by
              by_cases hjk : j = k
              · rw [hjk]; exact HGV.out
              · exact HALL.out j (by omega)), HB2.out⟩
            case measure => simp [intOf]; omega
          | false =>
            have HF := Lib.hid (HBA.out HGV.out)
            go_wp2_with fail
            go_ret
            exact ⟨ret_bool HF.out.symm, belowThen H0.out HB2.out⟩
      · have HGV := Lib.hid (show argB x.op x.args k = true by rw [HG.out, if_neg hz])
        have hz' : (x.args[k].op == 30) = false := by simpa using hz
        clear hz
        go_wp2_with fail
        go_roundw
        case rel => exact ⟨k + 1, by omega, by go_num, fun j hj => (by
          by_cases hjk : j = k
          · rw [hjk]; exact HGV.out
          · exact HALL.out j (by omega)), HB.out⟩
        case measure => simp [intOf]; omega
    · have HVR := Lib.hid ((hvr.out.below HB.out hs0.out).range)
      have HV2 := Lib.hid ((HV.out.below (H0.out.mono hB)).below (HB.out.mono (Nat.le_trans hB H0.out.size)))
      have HT := Lib.hid (belowThen H0.out HB.out)
      have hBr := Lib.hid (Nat.le_trans hB HT.out.size)
      have hsr := Lib.hid (Nat.lt_of_lt_of_le hs0.out HB.out.size)
      have HFO := Lib.hid (form_13 HO.out HCT.out (args_all fun j hj => HALL.out j (by omega)))
      have HL7 := Lib.hid (show True from trivial)
      clear hvr H0 HB HX HNE HCN HOE HFE HALL
      obtain ⟨z, hz⟩ : ∃ z, zeroB x.val = z := ⟨_, rfl⟩
      have HZ := Lib.hid hz
      rw [hz] at HFO
      clear hz
      have HHS := Lib.hid (show hasB 13 = true by decide)
      obtain ⟨q, hq⟩ : ∃ b, operB 13 x.name.toList = b := ⟨_, rfl⟩
      have HQ := Lib.hid hq
      rw [hq] at HFO
      clear hq
      go_wp2_with fail
      refine (named_r _ _ H30.out).mono ?_
      rintro e w2 ⟨rfl, rfl⟩
      rw [HHS.out]
      all_goals
        go_wp2_with (refine wpList_load_mid_e rfl 31 _ rfl w.heap.size (0 + 2) rfl vs _ HVR.out Tryz.underlying31 rfl hl.out ?_)
        all_goals first
          | (go_ret
             refine ⟨ret_bool (bool_of ?_), by with_reducible first | exact HT.out | exact HT.out⟩
             have hv := HFO.out
             rw [hv]
             clear hv HFO
             first | (simp [*]; done) | (simp; omega) | grind)
          | (refine (zero_r x.val _ B N vs HV2.out).mono ?_
             rintro e3 w3 ⟨rfl, hb3⟩
             have HT3 := Lib.hid (belowThen HT.out hb3)
             have k0 := (RX.out.then hb3 hsr.out).get0 c0
             have k1 := (RX.out.then hb3 hsr.out).get0 c1
             have k16 := (RX.out.then hb3 hsr.out).get0 c16
             clear hb3 d0 d1 d15 d16
             rw [HZ.out]
             cases z
             all_goals
               go_wp2_with fail
               all_goals first
                 | (go_ret
                    refine ⟨ret_bool (bool_of ?_), by with_reducible first | exact HT3.out | exact HT.out⟩
                    have hv := HFO.out
                    rw [hv]
                    clear hv HFO
                    first | (simp [*]; done) | (simp; omega) | grind)
                 | (refine (operator_r13 x.name _).mono ?_
                    rintro e4 w4 ⟨rfl, rfl⟩
                    rw [HQ.out]
                    cases q
                    all_goals
                      go_wp2_with fail
                      all_goals
                        (go_ret
                         refine ⟨ret_bool (bool_of ?_), by with_reducible first | exact HT3.out | exact HT.out⟩
                         have hv := HFO.out
                         rw [hv]
                         clear hv HFO
                         first | (simp [*]; done) | (simp; omega) | grind)
                   ))
end Go.Proofs.YtfegnmbdgdjkgaaGreatDoor

/- datakitref36.form: what it asks of a node, by class of operator (printed by gen36.py). -/
namespace Go.Proofs.YtfegnmbdgdjkgaaGreatDoor
open Go.RowKit

set_option maxRecDepth 100000 in
set_option maxHeartbeats 6400000 in
set_option linter.unusedVariables false in
theorem form_r_21 (x : ExprD) (w : World) (B N : Nat) (cs : List Value) (hN : N ≤ 1073741824) (hB : B ≤ w.heap.size) (he : ExprD.At w B N x cs) (ho : x.op = 21) : Calls Tryz.prog 55 #[.agg cs.toArray] w (BolR (formB x) w) := by
  obtain ⟨aa, fa, ac, fc, vs, hh⟩ := he.has
  have H0 := Lib.hid (show Below w.heap.size w (w.alloc (.cells cs.toArray 34)) from belowBox w _)
  have hvr := Lib.hid (show CellsAt (w.alloc (.cells cs.toArray 34)) w.heap.size (0 + 2) vs from hh.valRange (box_at w cs 34))
  have HV := Lib.hid hh.atVal
  have HA := Lib.hid hh.atArgs
  have hl := Lib.hid (show (Tryz.prog.info? 31).map (·.size) = some vs.length by rw [hh.atVal.len]; exact sizeV)
  have hs0 := Lib.hid (show w.heap.size < (w.alloc (.cells cs.toArray 34)).heap.size by rw [World.size_alloc]; omega)
  have HX := Lib.hid (box_at w cs 34)
  have hlen : x.args.length ≤ N := hh.own.2.2.1
  have hflen : x.funcs.length ≤ N := hh.own.2.2.2
  have c0 := hh.op
  have c1 := hh.name
  have c15 := hh.args
  have c16 := hh.funcs
  have H1 := Lib.hid (show 1 ≤ x.op ∧ x.op ≤ 29 by omega)
  have H30 := Lib.hid (show 1 ≤ (21 : Int) ∧ (21 : Int) ≤ 30 by omega)
  have HO := Lib.hid ho
  rw [ho] at c0
  clear hh he ho
  have hn : numE 21 = -1 := by decide
  have HNE := Lib.hid hn
  have HCN := Lib.hid (show cntP x.op x.args.length = true ↔ (x.args.length : Int) ≤ 8 from by rw [HO.out]; exact cnt_21 _)
  obtain ⟨f, hf⟩ : ∃ f : Int, (optE x.op : Int) = f := ⟨_, rfl⟩
  have HFE := Lib.hid (show frmE 21 = f by rw [← HO.out, frm_opt H1.out, hf])
  have HOE := Lib.hid hf
  clear hn hf
  go_enter Tryz.func55, Tryz.ntmps55
  go_wp2_with fail
  refine (args_r _ _ H30.out).mono ?_
  rintro e w1 ⟨rfl, heq⟩
  rw [← heq] at H0 hvr hs0 HX
  clear heq
  rw [HNE.out, HFE.out]
  have b0 := HX.out.get0 c0
  have b15 := HX.out.get0 c15
  by_cases hcnt : cntP x.op x.args.length = true
  case neg =>
    have HF := Lib.hid (form_bad_cnt (by simpa using hcnt))
    have hq : ¬ _ := fun h => hcnt (HCN.out.2 h)
    clear hcnt
    have q1 : (8 : Int) < (x.args.length : Int) := by omega
    clear hq
    go_wp2_with fail
    go_ret
    exact ⟨ret_bool HF.out.symm, H0.out⟩
  have HCT := Lib.hid hcnt
  have hq := HCN.out.1 hcnt
  clear hcnt
  have q1 : decide ((x.args.length : Int) > 8) = false := by simp; omega
  have HLE := Lib.hid hq
  clear hq
  go_wp2_with fail
  go_simp
  clear b0 b15
  go_loopw [5] (fun i wr => ∃ (k : Nat), k ≤ x.args.length ∧ i = .int .i64 k ∧ (∀ j, j < k → argB x.op x.args j = true) ∧ Below w1.heap.size w1 wr) (fun i _ => x.args.length - (intOf i).toNat)
  case atStart => exact ⟨0, by omega, rfl, fun j hj => absurd hj (by omega), Below.refl _ _⟩
  case round =>
    obtain ⟨k, hk, rfl, hall, hbel⟩ := hrel
    have HB := Lib.hid hbel
    have HALL := Lib.hid hall
    have RX := Lib.hid (HX.out.below HB.out hs0.out)
    clear hbel hall
    have d0 := RX.out.get0 c0
    have d1 := RX.out.get0 c1
    have d15 := RX.out.get0 c15
    have d16 := RX.out.get0 c16
    by_cases hlt : k < x.args.length
    · have HG := Lib.hid (argB_get x.op hlt)
      have HBA := Lib.hid (fun h => form_bad_arg (x := x) hlt h)
      obtain ⟨b, p, rfl, hb, hget⟩ := HA.out.get (by intro h; simp [h] at hlt)
      obtain ⟨es, g1, g2⟩ := hget k hlt
      have gb := Nat.lt_of_lt_of_le hb (Nat.le_trans hB H0.out.size)
      have HR := Lib.hid (((g1.below H0.out (Nat.lt_of_lt_of_le hb hB))).below HB.out gb)
      have HE := Lib.hid ((g2.below (H0.out.mono hB)).below (HB.out.mono (Nat.le_trans hB H0.out.size)))
      have hle := Lib.hid (show (Tryz.prog.info? 34).map (·.size) = some es.length by rw [g2.len]; exact sizeE)
      obtain ⟨aa1, fa1, ac1, fc1, vs1, gh⟩ := g2.has
      have f0 := gh.op
      clear gh g1 g2 hget gb
      have r0 := HR.out.get0' f0
      by_cases hz : x.args[k].op = 30
      · have HZ := Lib.hid hz
        rw [hz] at f0 r0
        clear hz
        by_cases hkf : (k : Int) < f
        · have HF := Lib.hid (HBA.out (by rw [HG.out, if_pos HZ.out]; have : ¬ optE x.op ≤ k := by have := HOE.out; omega
                                          simp [this]))
          go_wp2_with fail
          go_ret
          exact ⟨ret_bool HF.out.symm, belowThen H0.out HB.out⟩
        · have hkf' : decide ((k : Int) < f) = false := by simp; omega
          have hfk : optE x.op ≤ k := by have := HOE.out; omega
          have HKF := Lib.hid hfk
          clear hkf hfk
          go_wp2_with (refine wpList_load_mid_e rfl 34 _ rfl b (p + k * 17) rfl es _ HR.out.range Tryz.underlying34 rfl hle.out ?_)
          refine (absent_r x.args[k] _ B N es (Nat.le_trans hB (Nat.le_trans H0.out.size HB.out.size)) HE.out).mono ?_
          rintro e2 w2 ⟨rfl, hb2⟩
          have HB2 := Lib.hid (belowThen HB.out hb2)
          clear hb2
          obtain ⟨v, hv⟩ : ∃ v, absB x.args[k] = v := ⟨_, rfl⟩
          have HGV := Lib.hid (show argB x.op x.args k = v by rw [HG.out, if_pos HZ.out, hv]; simp [HKF.out])
          rw [hv]
          clear hv
          cases v with
          | true =>
            go_wp2_with fail
            go_roundw
            case rel => exact ⟨k + 1, by omega, by go_num, fun j hj => (by
              by_cases hjk : j = k
              · rw [hjk]; exact HGV.out
              · exact HALL.out j (by omega)), HB2.out⟩
            case measure => simp [intOf]; omega
          | false =>
            have HF := Lib.hid (HBA.out HGV.out)
            go_wp2_with fail
            go_ret
            exact ⟨ret_bool HF.out.symm, belowThen H0.out HB2.out⟩
      · have HGV := Lib.hid (show argB x.op x.args k = true by rw [HG.out, if_neg hz])
        have hz' : (x.args[k].op == 30) = false := by simpa using hz
        clear hz
        go_wp2_with fail
        go_roundw
        case rel => exact ⟨k + 1, by omega, by go_num, fun j hj => (by
          by_cases hjk : j = k
          · rw [hjk]; exact HGV.out
          · exact HALL.out j (by omega)), HB.out⟩
        case measure => simp [intOf]; omega
    · have HVR := Lib.hid ((hvr.out.below HB.out hs0.out).range)
      have HV2 := Lib.hid ((HV.out.below (H0.out.mono hB)).below (HB.out.mono (Nat.le_trans hB H0.out.size)))
      have HT := Lib.hid (belowThen H0.out HB.out)
      have hBr := Lib.hid (Nat.le_trans hB HT.out.size)
      have hsr := Lib.hid (Nat.lt_of_lt_of_le hs0.out HB.out.size)
      have HFO := Lib.hid (form_21 HO.out HCT.out (args_all fun j hj => HALL.out j (by omega)))
      have HL7 := Lib.hid (show True from trivial)
      clear hvr H0 HB HX HNE HCN HOE HFE HALL
      obtain ⟨z, hz⟩ : ∃ z, zeroB x.val = z := ⟨_, rfl⟩
      have HZ := Lib.hid hz
      rw [hz] at HFO
      clear hz
      have HHS := Lib.hid (show hasB 21 = true by decide)
      go_wp2_with fail
      refine (named_r _ _ H30.out).mono ?_
      rintro e w2 ⟨rfl, rfl⟩
      rw [HHS.out]
      all_goals
        go_wp2_with (refine wpList_load_mid_e rfl 31 _ rfl w.heap.size (0 + 2) rfl vs _ HVR.out Tryz.underlying31 rfl hl.out ?_)
        all_goals first
          | (go_ret
             refine ⟨ret_bool (bool_of ?_), by with_reducible first | exact HT.out | exact HT.out⟩
             have hv := HFO.out
             rw [hv]
             clear hv HFO
             first | (simp [*]; done) | (simp; omega) | grind)
          | (refine (zero_r x.val _ B N vs HV2.out).mono ?_
             rintro e3 w3 ⟨rfl, hb3⟩
             have HT3 := Lib.hid (belowThen HT.out hb3)
             have k0 := (RX.out.then hb3 hsr.out).get0 c0
             have k1 := (RX.out.then hb3 hsr.out).get0 c1
             have k16 := (RX.out.then hb3 hsr.out).get0 c16
             clear hb3 d0 d1 d15 d16
             rw [HZ.out]
             cases z
             all_goals
               go_wp2_with fail
               all_goals first
                 | (go_ret
                    refine ⟨ret_bool (bool_of ?_), by with_reducible first | exact HT3.out | exact HT.out⟩
                    have hv := HFO.out
                    rw [hv]
                    clear hv HFO
                    first | (simp [*]; done) | (simp; omega) | grind))
end Go.Proofs.YtfegnmbdgdjkgaaGreatDoor
