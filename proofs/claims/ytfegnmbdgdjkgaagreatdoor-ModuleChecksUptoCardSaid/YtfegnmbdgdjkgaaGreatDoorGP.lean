/- qparse.shape: what it asks of a node, by class of operator (printed by gen36.py). -/
import Derived.Test.YtfegnmbdgdjkgaaGreatDoorGI
import Derived.Test.YtfegnmbdgdjkgaaGreatDoorGJ
import Derived.Deep.WholeRow
namespace Go.Proofs.YtfegnmbdgdjkgaaGreatDoor
open Go.RowKit

set_option maxRecDepth 100000 in
set_option maxHeartbeats 6400000 in
set_option linter.unusedVariables false in
theorem shape_p_E (x : ExprD) (w : World) (B N : Nat) (cs : List Value) (hN : N ≤ 1073741824) (hB : B ≤ w.heap.size) (he : ExprD.At w B N x cs) (h1 : 1 ≤ x.op ∧ x.op ≤ 29) (hc : ElseO x.op) (hsm : x.args.length ≤ 65536) : Calls Tryz.prog 42 #[.agg cs.toArray] w (BolR (formB x) w) := by
  obtain ⟨aa, fa, ac, fc, vs, hh⟩ := he.has
  have H0 := Lib.hid (show Below w.heap.size w (w.alloc (.cells cs.toArray 34)) from belowBox w _)
  have hvr := Lib.hid (show CellsAt (w.alloc (.cells cs.toArray 34)) w.heap.size (0 + 2) vs from hh.valRange (box_at w cs 34))
  have HV := Lib.hid hh.atVal
  have HA := Lib.hid hh.atArgs
  have hl := Lib.hid (show (Tryz.prog.info? 31).map (·.size) = some vs.length by rw [hh.atVal.len]; exact sizeV)
  have hs0 := Lib.hid (show w.heap.size < (w.alloc (.cells cs.toArray 34)).heap.size by rw [World.size_alloc]; omega)
  have HX := Lib.hid (box_at w cs 34)
  have hlen : x.args.length ≤ N := hh.own.2.2.1
  have hflen : x.funcs.length ≤ N := hh.own.2.2.2
  have c0 := hh.op
  have c1 := hh.name
  have c15 := hh.args
  have c16 := hh.funcs
  obtain ⟨e3, e7, e12, e13, e21, e23, e25, n3, n23, n7⟩ := id hc
  have HC := Lib.hid hc
  have H1 := Lib.hid h1
  have H30 := Lib.hid (show 1 ≤ x.op ∧ x.op ≤ 30 by omega)
  obtain ⟨h11, h29⟩ := h1
  clear hh he hc
  have HSM := Lib.hid hsm
  clear hsm
  go_enter Tryz.func42, Tryz.ntmps42
  go_wp2_with fail
  refine (count_p _ x.args.length (by omega) _).mono ?_
  rintro e w1 ⟨rfl, heq⟩
  rw [← heq] at H0 hvr hs0 HX
  clear heq
  have b0 := HX.out.get0 c0
  have b15 := HX.out.get0 c15
  have b16 := HX.out.get0 c16
  obtain ⟨v, hv⟩ : ∃ v, cntP x.op x.args.length = v := ⟨_, rfl⟩
  have HCV := Lib.hid (show cntP x.op x.args.length = v by exact hv)
  rw [hv]
  clear hv
  cases v
  case false =>
    have HF := Lib.hid (form_bad_cnt HCV.out)
    go_wp2_with fail
    go_ret
    exact ⟨ret_bool HF.out.symm, H0.out⟩
  have HV1 := Lib.hid (show ValD.At w1 B N x.val vs from HV.out.below (H0.out.mono hB))
  have HVR := Lib.hid hvr.out.range
  go_wp2_with (refine wpList_load_mid_e rfl 31 _ rfl w.heap.size (0 + 2) rfl vs _ HVR.out Tryz.underlying31 rfl hl.out ?_)
  refine (zero_p x.val _ B N vs HV1.out).mono ?_
  rintro e2 w2 ⟨rfl, hb2⟩
  have HB2 := Lib.hid hb2
  have d0 := (HX.out.then hb2 hs0.out).get0 c0
  have d15 := (HX.out.then hb2 hs0.out).get0 c15
  have d16 := (HX.out.then hb2 hs0.out).get0 c16
  clear hb2 b0 b15 b16
  obtain ⟨z, hz⟩ : ∃ z, zeroB x.val = z := ⟨_, rfl⟩
  have HZ := Lib.hid hz
  rw [hz]
  clear hz
  cases z
  case false =>
    have HF := Lib.hid (form_bad_zero HC.out.ne.1 HZ.out)
    go_wp2_with fail
    go_ret
    exact ⟨ret_bool HF.out.symm, belowThen H0.out HB2.out⟩
  by_cases hfu : 0 < x.funcs.length
  case pos =>
    have HF := Lib.hid (form_bad_fun HC.out.ne.2.2.2.2.2.1 hfu)
    go_wp2_with fail
    go_ret
    exact ⟨ret_bool HF.out.symm, belowThen H0.out HB2.out⟩
  have HFU := Lib.hid hfu
  go_wp2_with fail
  go_simp
  clear d0 d15 d16
  go_loopw [47] (fun i wr => ∃ (k : Nat), k ≤ x.args.length ∧ i = .int .i64 k ∧ (∀ j, j < k → argB x.op x.args j = true) ∧ Below w1.heap.size w1 wr) (fun i _ => x.args.length - (intOf i).toNat)
  case atStart => exact ⟨0, by omega, rfl, fun j hj => absurd hj (by omega), HB2.out⟩
  case round =>
    obtain ⟨k, hk, rfl, hall, hbel⟩ := hrel
    have HB := Lib.hid hbel
    have HALL := Lib.hid hall
    have RX := Lib.hid (HX.out.below HB.out hs0.out)
    have hsr := Lib.hid (Nat.lt_of_lt_of_le hs0.out HB.out.size)
    clear hbel hall
    by_cases hlt : k < x.args.length
    · have HG := Lib.hid (argB_get x.op hlt)
      have HBA := Lib.hid (fun h => form_bad_arg (x := x) hlt h)
      have hcp := cnt_parts HCV.out
      have HOO := Lib.hid (opt_opt hcp.1 hlt ⟨hcp.2.1, hcp.2.2.1, fun _ => HSM.out⟩)
      clear hcp
      obtain ⟨b, p, rfl, hb, hget⟩ := HA.out.get (by intro h; simp [h] at hlt)
      obtain ⟨es, g1, g2⟩ := hget k hlt
      have gb := Nat.lt_of_lt_of_le hb (Nat.le_trans hB H0.out.size)
      have HR := Lib.hid (((g1.below H0.out (Nat.lt_of_lt_of_le hb hB))).below HB.out gb).range
      have HE := Lib.hid (((g2.below (H0.out.mono hB)).below (HB.out.mono (Nat.le_trans hB H0.out.size))).below ((belowBox wr (.cells es.toArray 34)).mono (Nat.le_trans hB (Nat.le_trans H0.out.size HB.out.size))))
      have hle := Lib.hid (show (Tryz.prog.info? 34).map (·.size) = some es.length by rw [g2.len]; exact sizeE)
      have hle2 := Lib.hid (show (Tryz.prog.info? 34).map (·.size) = some es.toArray.size by rw [List.size_toArray, g2.len]; exact sizeE)
      have h17 := Lib.hid (show 17 = es.toArray.size by rw [List.size_toArray, g2.len])
      have hone := Lib.hid (show es.toArray.all (·.oneCell') = true from Go.all_oneCell_toArray g2.one)
      obtain ⟨aa1, fa1, ac1, fc1, vs1, gh⟩ := g2.has
      have f0 := gh.op
      clear gh g1 g2 hget gb
      have HBX := Lib.hid (belowThen HB.out (belowBox wr (.cells es.toArray 34)))
      have k0 := (RX.out.then (belowBox wr (.cells es.toArray 34)) hsr.out).get0 c0
      by_cases hz : x.args[k].op = 30
      · have HZ3 := Lib.hid hz
        rw [hz] at f0
        have r0 := (box_at wr es 34).get0 f0
        clear hz
        go_wp2_with (first
          | ((with_reducible show wpList _ _ _ (⟨some 51, _, _, _, _, _⟩ :: _) _ _); refine wpList_load_mid_e rfl 34 _ rfl b (p + k * 17) rfl es _ HR.out Tryz.underlying34 rfl hle.out ?_)
          | ((with_reducible show wpList _ _ _ (⟨none, .store 34 (.tmp 4) _, _, _, _, _⟩ :: _) _ _); refine wpList_store_new rfl 34 _ _ rfl _ es.toArray rfl rfl hle2.out h17.out hone.out ?_))
        refine (optional_p _ k _).mono ?_
        rintro e3 w3 ⟨rfl, rfl⟩
        obtain ⟨q, hq⟩ : ∃ q, optP x.op k = q := ⟨_, rfl⟩
        have HQ := Lib.hid (show decide (optE x.op ≤ k) = q by rw [← HOO.out]; exact hq)
        rw [hq]
        clear hq
        cases q
        case false =>
          have HF := Lib.hid (HBA.out (by rw [HG.out, if_pos HZ3.out, HQ.out]; rfl))
          go_wp2_with fail
          go_ret
          exact ⟨ret_bool HF.out.symm, belowThen H0.out HBX.out⟩
        go_wp2_with (refine wpList_load_mid_e rfl 34 _ rfl wr.heap.size 0 rfl es _ (box_at wr es 34).range Tryz.underlying34 rfl hle.out ?_)
        refine (absent_p x.args[k] _ B N es (Nat.le_trans hB (Nat.le_trans H0.out.size HBX.out.size)) HE.out).mono ?_
        rintro e4 w4 ⟨rfl, hb4⟩
        have HB4 := Lib.hid (belowThen HBX.out hb4)
        clear hb4
        obtain ⟨u, hu⟩ : ∃ u, absB x.args[k] = u := ⟨_, rfl⟩
        have HGV := Lib.hid (show argB x.op x.args k = u by rw [HG.out, if_pos HZ3.out, hu, HQ.out]; simp)
        rw [hu]
        clear hu
        cases u with
        | true =>
          go_wp2_with fail
          go_roundw
          case rel => exact ⟨k + 1, by omega, by go_num, fun j hj => (by
            by_cases hjk : j = k
            · rw [hjk]; exact HGV.out
            · exact HALL.out j (by omega)), HB4.out⟩
          case measure => simp [intOf]; omega
        | false =>
          have HF := Lib.hid (HBA.out HGV.out)
          go_wp2_with fail
          go_ret
          exact ⟨ret_bool HF.out.symm, belowThen H0.out HB4.out⟩
      · have HGV := Lib.hid (show argB x.op x.args k = true by rw [HG.out, if_neg hz])
        have hz' : (x.args[k].op == 30) = false := by simpa using hz
        have r0 := (box_at wr es 34).get0 f0
        clear hz
        go_wp2_with (first
          | ((with_reducible show wpList _ _ _ (⟨some 51, _, _, _, _, _⟩ :: _) _ _); refine wpList_load_mid_e rfl 34 _ rfl b (p + k * 17) rfl es _ HR.out Tryz.underlying34 rfl hle.out ?_)
          | ((with_reducible show wpList _ _ _ (⟨none, .store 34 (.tmp 4) _, _, _, _, _⟩ :: _) _ _); refine wpList_store_new rfl 34 _ _ rfl _ es.toArray rfl rfl hle2.out h17.out hone.out ?_))
        go_roundw
        case rel => exact ⟨k + 1, by omega, by go_num, fun j hj => (by
          by_cases hjk : j = k
          · rw [hjk]; exact HGV.out
          · exact HALL.out j (by omega)), HBX.out⟩
        case measure => simp [intOf]; omega
    · have HT := Lib.hid (belowThen H0.out HB.out)
      have d0 := RX.out.get0 c0
      have d1 := RX.out.get0 c1
      have d15 := RX.out.get0 c15
      have HFO := Lib.hid (form_E HC.out HCV.out (args_all fun j hj => HALL.out j (by omega)))
      rw [HZ.out] at HFO
      have hfu := HFU.out
      have HHE := Lib.hid (has_else HC.out)
      obtain ⟨v5, hv5⟩ : ∃ b, (x.op == 5) = b := ⟨_, rfl⟩
      obtain ⟨vi, hvi⟩ : ∃ b, idnB x.op = b := ⟨_, rfl⟩
      have HI := Lib.hid hvi
      rw [HHE.out, hvi, hv5] at HFO
      clear hvi
      have HV5 := Lib.hid hv5
      clear hv5
      by_cases hnm : x.name.toList = []
      all_goals
        have hv5 := HV5.out
        go_wp2_with fail
        refine (named_p _ _ H30.out).mono ?_
        rintro e4 w4 ⟨rfl, rfl⟩
        rw [HI.out]
        cases vi
        all_goals
          cases v5
          all_goals
            go_wp2_with fail
            all_goals
              (go_ret
               refine ⟨ret_bool (bool_of ?_), by with_reducible exact HT.out⟩
               have hv := HFO.out
               rw [hv]
               clear hv HFO
               first | (simp [*]; done) | (simp; omega) | grind)
end Go.Proofs.YtfegnmbdgdjkgaaGreatDoor

/- qparse.shape: what it asks of a node, by class of operator (printed by gen36.py). -/
namespace Go.Proofs.YtfegnmbdgdjkgaaGreatDoor
open Go.RowKit

set_option maxRecDepth 100000 in
set_option maxHeartbeats 6400000 in
set_option linter.unusedVariables false in
theorem shape_p_3 (x : ExprD) (w : World) (B N : Nat) (cs : List Value) (hN : N ≤ 1073741824) (hB : B ≤ w.heap.size) (he : ExprD.At w B N x cs) (ho : x.op = 3) (hsm : x.args.length ≤ 65536) : Calls Tryz.prog 42 #[.agg cs.toArray] w (BolR (formB x) w) := by
  obtain ⟨aa, fa, ac, fc, vs, hh⟩ := he.has
  have H0 := Lib.hid (show Below w.heap.size w (w.alloc (.cells cs.toArray 34)) from belowBox w _)
  have hvr := Lib.hid (show CellsAt (w.alloc (.cells cs.toArray 34)) w.heap.size (0 + 2) vs from hh.valRange (box_at w cs 34))
  have HV := Lib.hid hh.atVal
  have HA := Lib.hid hh.atArgs
  have hl := Lib.hid (show (Tryz.prog.info? 31).map (·.size) = some vs.length by rw [hh.atVal.len]; exact sizeV)
  have hs0 := Lib.hid (show w.heap.size < (w.alloc (.cells cs.toArray 34)).heap.size by rw [World.size_alloc]; omega)
  have HX := Lib.hid (box_at w cs 34)
  have hlen : x.args.length ≤ N := hh.own.2.2.1
  have hflen : x.funcs.length ≤ N := hh.own.2.2.2
  have c0 := hh.op
  have c1 := hh.name
  have c15 := hh.args
  have c16 := hh.funcs
  have H1 := Lib.hid (show 1 ≤ x.op ∧ x.op ≤ 29 by omega)
  have H30 := Lib.hid (show 1 ≤ (3 : Int) ∧ (3 : Int) ≤ 30 by omega)
  have HO := Lib.hid ho
  rw [ho] at c0
  clear hh he ho
  have HSM := Lib.hid hsm
  clear hsm
  go_enter Tryz.func42, Tryz.ntmps42
  go_wp2_with fail
  refine (count_p _ x.args.length (by omega) _).mono ?_
  rintro e w1 ⟨rfl, heq⟩
  rw [← heq] at H0 hvr hs0 HX
  clear heq
  have b0 := HX.out.get0 c0
  have b15 := HX.out.get0 c15
  have b16 := HX.out.get0 c16
  obtain ⟨v, hv⟩ : ∃ v, cntP 3 x.args.length = v := ⟨_, rfl⟩
  have HCV := Lib.hid (show cntP x.op x.args.length = v by rw [HO.out]; exact hv)
  rw [hv]
  clear hv
  cases v
  case false =>
    have HF := Lib.hid (form_bad_cnt HCV.out)
    go_wp2_with fail
    go_ret
    exact ⟨ret_bool HF.out.symm, H0.out⟩
  have HV1 := Lib.hid (show ValD.At w1 B N x.val vs from HV.out.below (H0.out.mono hB))
  have HVR := Lib.hid hvr.out.range
  go_wp2_with (refine wpList_load_mid_e rfl 31 _ rfl w.heap.size (0 + 2) rfl vs _ HVR.out Tryz.underlying31 rfl hl.out ?_)
  refine (lit_p x.val _ B N vs HV1.out).mono ?_
  rintro e2 w2 ⟨rfl, hb2⟩
  have HB2 := Lib.hid hb2
  have d0 := (HX.out.then hb2 hs0.out).get0 c0
  have d15 := (HX.out.then hb2 hs0.out).get0 c15
  have d16 := (HX.out.then hb2 hs0.out).get0 c16
  clear hb2 b0 b15 b16
  obtain ⟨z, hz⟩ : ∃ z, litB x.val = z := ⟨_, rfl⟩
  have HZ := Lib.hid hz
  rw [hz]
  clear hz
  cases z
  case false =>
    have HF := Lib.hid (form_bad_lit HO.out HZ.out)
    go_wp2_with fail
    go_ret
    exact ⟨ret_bool HF.out.symm, belowThen H0.out HB2.out⟩
  by_cases hfu : 0 < x.funcs.length
  case pos =>
    have HF := Lib.hid (form_bad_fun (by rw [HO.out]; decide) hfu)
    go_wp2_with fail
    go_ret
    exact ⟨ret_bool HF.out.symm, belowThen H0.out HB2.out⟩
  have HFU := Lib.hid hfu
  go_wp2_with fail
  go_simp
  clear d0 d15 d16
  go_loopw [47] (fun i wr => ∃ (k : Nat), k ≤ x.args.length ∧ i = .int .i64 k ∧ (∀ j, j < k → argB x.op x.args j = true) ∧ Below w1.heap.size w1 wr) (fun i _ => x.args.length - (intOf i).toNat)
  case atStart => exact ⟨0, by omega, rfl, fun j hj => absurd hj (by omega), HB2.out⟩
  case round =>
    obtain ⟨k, hk, rfl, hall, hbel⟩ := hrel
    have HB := Lib.hid hbel
    have HALL := Lib.hid hall
    have RX := Lib.hid (HX.out.below HB.out hs0.out)
    have hsr := Lib.hid (Nat.lt_of_lt_of_le hs0.out HB.out.size)
    clear hbel hall
    by_cases hlt : k < x.args.length
    · have HG := Lib.hid (argB_get x.op hlt)
      have HBA := Lib.hid (fun h => form_bad_arg (x := x) hlt h)
      have hcp := cnt_parts HCV.out
      have HOO := Lib.hid (opt_opt hcp.1 hlt ⟨hcp.2.1, hcp.2.2.1, fun _ => HSM.out⟩)
      clear hcp
      obtain ⟨b, p, rfl, hb, hget⟩ := HA.out.get (by intro h; simp [h] at hlt)
      obtain ⟨es, g1, g2⟩ := hget k hlt
      have gb := Nat.lt_of_lt_of_le hb (Nat.le_trans hB H0.out.size)
      have HR := Lib.hid (((g1.below H0.out (Nat.lt_of_lt_of_le hb hB))).below HB.out gb).range
      have HE := Lib.hid (((g2.below (H0.out.mono hB)).below (HB.out.mono (Nat.le_trans hB H0.out.size))).below ((belowBox wr (.cells es.toArray 34)).mono (Nat.le_trans hB (Nat.le_trans H0.out.size HB.out.size))))
      have hle := Lib.hid (show (Tryz.prog.info? 34).map (·.size) = some es.length by rw [g2.len]; exact sizeE)
      have hle2 := Lib.hid (show (Tryz.prog.info? 34).map (·.size) = some es.toArray.size by rw [List.size_toArray, g2.len]; exact sizeE)
      have h17 := Lib.hid (show 17 = es.toArray.size by rw [List.size_toArray, g2.len])
      have hone := Lib.hid (show es.toArray.all (·.oneCell') = true from Go.all_oneCell_toArray g2.one)
      obtain ⟨aa1, fa1, ac1, fc1, vs1, gh⟩ := g2.has
      have f0 := gh.op
      clear gh g1 g2 hget gb
      have HBX := Lib.hid (belowThen HB.out (belowBox wr (.cells es.toArray 34)))
      have k0 := (RX.out.then (belowBox wr (.cells es.toArray 34)) hsr.out).get0 c0
      by_cases hz : x.args[k].op = 30
      · have HZ3 := Lib.hid hz
        rw [hz] at f0
        have r0 := (box_at wr es 34).get0 f0
        clear hz
        go_wp2_with (first
          | ((with_reducible show wpList _ _ _ (⟨some 51, _, _, _, _, _⟩ :: _) _ _); refine wpList_load_mid_e rfl 34 _ rfl b (p + k * 17) rfl es _ HR.out Tryz.underlying34 rfl hle.out ?_)
          | ((with_reducible show wpList _ _ _ (⟨none, .store 34 (.tmp 4) _, _, _, _, _⟩ :: _) _ _); refine wpList_store_new rfl 34 _ _ rfl _ es.toArray rfl rfl hle2.out h17.out hone.out ?_))
        refine (optional_p _ k _).mono ?_
        rintro e3 w3 ⟨rfl, rfl⟩
        obtain ⟨q, hq⟩ : ∃ q, optP 3 k = q := ⟨_, rfl⟩
        have HQ := Lib.hid (show decide (optE x.op ≤ k) = q by rw [← HOO.out]; rw [HO.out]; exact hq)
        rw [hq]
        clear hq
        cases q
        case false =>
          have HF := Lib.hid (HBA.out (by rw [HG.out, if_pos HZ3.out, HQ.out]; rfl))
          go_wp2_with fail
          go_ret
          exact ⟨ret_bool HF.out.symm, belowThen H0.out HBX.out⟩
        go_wp2_with (refine wpList_load_mid_e rfl 34 _ rfl wr.heap.size 0 rfl es _ (box_at wr es 34).range Tryz.underlying34 rfl hle.out ?_)
        refine (absent_p x.args[k] _ B N es (Nat.le_trans hB (Nat.le_trans H0.out.size HBX.out.size)) HE.out).mono ?_
        rintro e4 w4 ⟨rfl, hb4⟩
        have HB4 := Lib.hid (belowThen HBX.out hb4)
        clear hb4
        obtain ⟨u, hu⟩ : ∃ u, absB x.args[k] = u := ⟨_, rfl⟩
        have HGV := Lib.hid (show argB x.op x.args k = u by rw [HG.out, if_pos HZ3.out, hu, HQ.out]; simp)
        rw [hu]
        clear hu
        cases u with
        | true =>
          go_wp2_with fail
          go_roundw
          case rel => exact ⟨k + 1, by omega, by go_num, fun j hj => (by
            by_cases hjk : j = k
            · rw [hjk]; exact HGV.out
            · exact HALL.out j (by omega)), HB4.out⟩
          case measure => simp [intOf]; omega
        | false =>
          have HF := Lib.hid (HBA.out HGV.out)
          go_wp2_with fail
          go_ret
          exact ⟨ret_bool HF.out.symm, belowThen H0.out HB4.out⟩
      · have HGV := Lib.hid (show argB x.op x.args k = true by rw [HG.out, if_neg hz])
        have hz' : (x.args[k].op == 30) = false := by simpa using hz
        have r0 := (box_at wr es 34).get0 f0
        clear hz
        go_wp2_with (first
          | ((with_reducible show wpList _ _ _ (⟨some 51, _, _, _, _, _⟩ :: _) _ _); refine wpList_load_mid_e rfl 34 _ rfl b (p + k * 17) rfl es _ HR.out Tryz.underlying34 rfl hle.out ?_)
          | ((with_reducible show wpList _ _ _ (⟨none, .store 34 (.tmp 4) _, _, _, _, _⟩ :: _) _ _); refine wpList_store_new rfl 34 _ _ rfl _ es.toArray rfl rfl hle2.out h17.out hone.out ?_))
        go_roundw
        case rel => exact ⟨k + 1, by omega, by go_num, fun j hj => (by
          by_cases hjk : j = k
          · rw [hjk]; exact HGV.out
          · exact HALL.out j (by omega)), HBX.out⟩
        case measure => simp [intOf]; omega
    · have HT := Lib.hid (belowThen H0.out HB.out)
      have d0 := RX.out.get0 c0
      have d1 := RX.out.get0 c1
      have d15 := RX.out.get0 c15
      have HFO := Lib.hid (form_3 HO.out HCV.out (args_all fun j hj => HALL.out j (by omega)))
      rw [HZ.out] at HFO
      have hfu := HFU.out
      have HI := Lib.hid (show idnB 3 = false by decide)
      by_cases hnm : x.name.toList = []
      all_goals
        go_wp2_with fail
        refine (named_p _ _ H30.out).mono ?_
        rintro e4 w4 ⟨rfl, rfl⟩
        rw [HI.out]
        go_wp2_with fail
        all_goals
          (go_ret
           refine ⟨ret_bool (bool_of ?_), by with_reducible exact HT.out⟩
           have hv := HFO.out
           rw [hv]
           clear hv HFO
           first | (simp [*]; done) | (simp; omega) | grind)
end Go.Proofs.YtfegnmbdgdjkgaaGreatDoor

/- qparse.shape: what it asks of a node, by class of operator (printed by gen36.py). -/
namespace Go.Proofs.YtfegnmbdgdjkgaaGreatDoor
open Go.RowKit

set_option maxRecDepth 100000 in
set_option maxHeartbeats 6400000 in
set_option linter.unusedVariables false in
theorem shape_p_7 (x : ExprD) (w : World) (B N : Nat) (cs : List Value) (hN : N ≤ 1073741824) (hB : B ≤ w.heap.size) (he : ExprD.At w B N x cs) (ho : x.op = 7) (hsm : x.args.length ≤ 65536) : Calls Tryz.prog 42 #[.agg cs.toArray] w (BolR (formB x) w) := by
  obtain ⟨aa, fa, ac, fc, vs, hh⟩ := he.has
  have H0 := Lib.hid (show Below w.heap.size w (w.alloc (.cells cs.toArray 34)) from belowBox w _)
  have hvr := Lib.hid (show CellsAt (w.alloc (.cells cs.toArray 34)) w.heap.size (0 + 2) vs from hh.valRange (box_at w cs 34))
  have HV := Lib.hid hh.atVal
  have HA := Lib.hid hh.atArgs
  have hl := Lib.hid (show (Tryz.prog.info? 31).map (·.size) = some vs.length by rw [hh.atVal.len]; exact sizeV)
  have hs0 := Lib.hid (show w.heap.size < (w.alloc (.cells cs.toArray 34)).heap.size by rw [World.size_alloc]; omega)
  have HX := Lib.hid (box_at w cs 34)
  have hlen : x.args.length ≤ N := hh.own.2.2.1
  have hflen : x.funcs.length ≤ N := hh.own.2.2.2
  have c0 := hh.op
  have c1 := hh.name
  have c15 := hh.args
  have c16 := hh.funcs
  have H1 := Lib.hid (show 1 ≤ x.op ∧ x.op ≤ 29 by omega)
  have H30 := Lib.hid (show 1 ≤ (7 : Int) ∧ (7 : Int) ≤ 30 by omega)
  have HO := Lib.hid ho
  rw [ho] at c0
  clear hh he ho
  have HSM := Lib.hid hsm
  clear hsm
  go_enter Tryz.func42, Tryz.ntmps42
  go_wp2_with fail
  refine (count_p _ x.args.length (by omega) _).mono ?_
  rintro e w1 ⟨rfl, heq⟩
  rw [← heq] at H0 hvr hs0 HX
  clear heq
  have b0 := HX.out.get0 c0
  have b15 := HX.out.get0 c15
  have b16 := HX.out.get0 c16
  obtain ⟨v, hv⟩ : ∃ v, cntP 7 x.args.length = v := ⟨_, rfl⟩
  have HCV := Lib.hid (show cntP x.op x.args.length = v by rw [HO.out]; exact hv)
  rw [hv]
  clear hv
  cases v
  case false =>
    have HF := Lib.hid (form_bad_cnt HCV.out)
    go_wp2_with fail
    go_ret
    exact ⟨ret_bool HF.out.symm, H0.out⟩
  have HV1 := Lib.hid (show ValD.At w1 B N x.val vs from HV.out.below (H0.out.mono hB))
  have HVR := Lib.hid hvr.out.range
  go_wp2_with (refine wpList_load_mid_e rfl 31 _ rfl w.heap.size (0 + 2) rfl vs _ HVR.out Tryz.underlying31 rfl hl.out ?_)
  refine (zero_p x.val _ B N vs HV1.out).mono ?_
  rintro e2 w2 ⟨rfl, hb2⟩
  have HB2 := Lib.hid hb2
  have d0 := (HX.out.then hb2 hs0.out).get0 c0
  have d15 := (HX.out.then hb2 hs0.out).get0 c15
  have d16 := (HX.out.then hb2 hs0.out).get0 c16
  clear hb2 b0 b15 b16
  obtain ⟨z, hz⟩ : ∃ z, zeroB x.val = z := ⟨_, rfl⟩
  have HZ := Lib.hid hz
  rw [hz]
  clear hz
  cases z
  case false =>
    have HF := Lib.hid (form_bad_zero (by rw [HO.out]; decide) HZ.out)
    go_wp2_with fail
    go_ret
    exact ⟨ret_bool HF.out.symm, belowThen H0.out HB2.out⟩
  by_cases hfu : 0 < x.funcs.length
  case pos =>
    have HF := Lib.hid (form_bad_fun (by rw [HO.out]; decide) hfu)
    go_wp2_with fail
    go_ret
    exact ⟨ret_bool HF.out.symm, belowThen H0.out HB2.out⟩
  have HFU := Lib.hid hfu
  go_wp2_with fail
  go_simp
  clear d0 d15 d16
  go_loopw [47] (fun i wr => ∃ (k : Nat), k ≤ x.args.length ∧ i = .int .i64 k ∧ (∀ j, j < k → argB x.op x.args j = true) ∧ Below w1.heap.size w1 wr) (fun i _ => x.args.length - (intOf i).toNat)
  case atStart => exact ⟨0, by omega, rfl, fun j hj => absurd hj (by omega), HB2.out⟩
  case round =>
    obtain ⟨k, hk, rfl, hall, hbel⟩ := hrel
    have HB := Lib.hid hbel
    have HALL := Lib.hid hall
    have RX := Lib.hid (HX.out.below HB.out hs0.out)
    have hsr := Lib.hid (Nat.lt_of_lt_of_le hs0.out HB.out.size)
    clear hbel hall
    by_cases hlt : k < x.args.length
    · have HG := Lib.hid (argB_get x.op hlt)
      have HBA := Lib.hid (fun h => form_bad_arg (x := x) hlt h)
      have hcp := cnt_parts HCV.out
      have HOO := Lib.hid (opt_opt hcp.1 hlt ⟨hcp.2.1, hcp.2.2.1, fun _ => HSM.out⟩)
      clear hcp
      obtain ⟨b, p, rfl, hb, hget⟩ := HA.out.get (by intro h; simp [h] at hlt)
      obtain ⟨es, g1, g2⟩ := hget k hlt
      have gb := Nat.lt_of_lt_of_le hb (Nat.le_trans hB H0.out.size)
      have HR := Lib.hid (((g1.below H0.out (Nat.lt_of_lt_of_le hb hB))).below HB.out gb).range
      have HE := Lib.hid (((g2.below (H0.out.mono hB)).below (HB.out.mono (Nat.le_trans hB H0.out.size))).below ((belowBox wr (.cells es.toArray 34)).mono (Nat.le_trans hB (Nat.le_trans H0.out.size HB.out.size))))
      have hle := Lib.hid (show (Tryz.prog.info? 34).map (·.size) = some es.length by rw [g2.len]; exact sizeE)
      have hle2 := Lib.hid (show (Tryz.prog.info? 34).map (·.size) = some es.toArray.size by rw [List.size_toArray, g2.len]; exact sizeE)
      have h17 := Lib.hid (show 17 = es.toArray.size by rw [List.size_toArray, g2.len])
      have hone := Lib.hid (show es.toArray.all (·.oneCell') = true from Go.all_oneCell_toArray g2.one)
      obtain ⟨aa1, fa1, ac1, fc1, vs1, gh⟩ := g2.has
      have f0 := gh.op
      clear gh g1 g2 hget gb
      have HBX := Lib.hid (belowThen HB.out (belowBox wr (.cells es.toArray 34)))
      have k0 := (RX.out.then (belowBox wr (.cells es.toArray 34)) hsr.out).get0 c0
      by_cases hz : x.args[k].op = 30
      · have HZ3 := Lib.hid hz
        rw [hz] at f0
        have r0 := (box_at wr es 34).get0 f0
        clear hz
        go_wp2_with (first
          | ((with_reducible show wpList _ _ _ (⟨some 51, _, _, _, _, _⟩ :: _) _ _); refine wpList_load_mid_e rfl 34 _ rfl b (p + k * 17) rfl es _ HR.out Tryz.underlying34 rfl hle.out ?_)
          | ((with_reducible show wpList _ _ _ (⟨none, .store 34 (.tmp 4) _, _, _, _, _⟩ :: _) _ _); refine wpList_store_new rfl 34 _ _ rfl _ es.toArray rfl rfl hle2.out h17.out hone.out ?_))
        refine (optional_p _ k _).mono ?_
        rintro e3 w3 ⟨rfl, rfl⟩
        obtain ⟨q, hq⟩ : ∃ q, optP 7 k = q := ⟨_, rfl⟩
        have HQ := Lib.hid (show decide (optE x.op ≤ k) = q by rw [← HOO.out]; rw [HO.out]; exact hq)
        rw [hq]
        clear hq
        cases q
        case false =>
          have HF := Lib.hid (HBA.out (by rw [HG.out, if_pos HZ3.out, HQ.out]; rfl))
          go_wp2_with fail
          go_ret
          exact ⟨ret_bool HF.out.symm, belowThen H0.out HBX.out⟩
        go_wp2_with (refine wpList_load_mid_e rfl 34 _ rfl wr.heap.size 0 rfl es _ (box_at wr es 34).range Tryz.underlying34 rfl hle.out ?_)
        refine (absent_p x.args[k] _ B N es (Nat.le_trans hB (Nat.le_trans H0.out.size HBX.out.size)) HE.out).mono ?_
        rintro e4 w4 ⟨rfl, hb4⟩
        have HB4 := Lib.hid (belowThen HBX.out hb4)
        clear hb4
        obtain ⟨u, hu⟩ : ∃ u, absB x.args[k] = u := ⟨_, rfl⟩
        have HGV := Lib.hid (show argB x.op x.args k = u by rw [HG.out, if_pos HZ3.out, hu, HQ.out]; simp)
        rw [hu]
        clear hu
        cases u with
        | true =>
          go_wp2_with fail
          go_roundw
          case rel => exact ⟨k + 1, by omega, by go_num, fun j hj => (by
            by_cases hjk : j = k
            · rw [hjk]; exact HGV.out
            · exact HALL.out j (by omega)), HB4.out⟩
          case measure => simp [intOf]; omega
        | false =>
          have HF := Lib.hid (HBA.out HGV.out)
          go_wp2_with fail
          go_ret
          exact ⟨ret_bool HF.out.symm, belowThen H0.out HB4.out⟩
      · have HGV := Lib.hid (show argB x.op x.args k = true by rw [HG.out, if_neg hz])
        have hz' : (x.args[k].op == 30) = false := by simpa using hz
        have r0 := (box_at wr es 34).get0 f0
        clear hz
        go_wp2_with (first
          | ((with_reducible show wpList _ _ _ (⟨some 51, _, _, _, _, _⟩ :: _) _ _); refine wpList_load_mid_e rfl 34 _ rfl b (p + k * 17) rfl es _ HR.out Tryz.underlying34 rfl hle.out ?_)
          | ((with_reducible show wpList _ _ _ (⟨none, .store 34 (.tmp 4) _, _, _, _, _⟩ :: _) _ _); refine wpList_store_new rfl 34 _ _ rfl _ es.toArray rfl rfl hle2.out h17.out hone.out ?_))
        go_roundw
        case rel => exact ⟨k + 1, by omega, by go_num, fun j hj => (by
          by_cases hjk : j = k
          · rw [hjk]; exact HGV.out
          · exact HALL.out j (by omega)), HBX.out⟩
        case measure => simp [intOf]; omega
    · have HT := Lib.hid (belowThen H0.out HB.out)
      have d0 := RX.out.get0 c0
      have d1 := RX.out.get0 c1
      have d15 := RX.out.get0 c15
      have HFO := Lib.hid (form_7 HO.out HCV.out (args_all fun j hj => HALL.out j (by omega)))
      rw [HZ.out] at HFO
      have hfu := HFU.out
      have HL7 := Lib.hid (show x.args.length = 3 by have h7 := (cnt_parts HCV.out).2.1; rw [HO.out] at h7; have h3 : numE 7 = 3 := (by decide); rw [h3] at h7; have := h7 (by decide); omega)
      have l1 : 1 < x.args.length := (by have := HL7.out; omega)
      have l2 : 2 < x.args.length := (by have := HL7.out; omega)
      obtain ⟨b, p, rfl, hb, hget⟩ := HA.out.get (by intro h; rw [h] at l1; cases l1)
      obtain ⟨es1, g1, g2⟩ := hget 1 l1
      obtain ⟨es2, g3, g4⟩ := hget 2 l2
      obtain ⟨_, _, _, _, _, gh1⟩ := g2.has
      obtain ⟨_, _, _, _, _, gh2⟩ := g4.has
      have r1 := (g1.below HT.out (Nat.lt_of_lt_of_le hb hB)).get0' gh1.op
      have r2 := (g3.below HT.out (Nat.lt_of_lt_of_le hb hB)).get0' gh2.op
      clear g1 g2 g3 g4 gh1 gh2 hget hb
      rw [show p + 1 * 17 = p + 17 by omega] at r1
      rw [show p + 2 * 17 = p + 34 by omega] at r2
      have a1 : x.args.getD 1 default = x.args[1] := (by simp [List.getD, List.getElem?_eq_getElem l1])
      have a2 : x.args.getD 2 default = x.args[2] := (by simp [List.getD, List.getElem?_eq_getElem l2])
      rw [a1, a2] at HFO
      clear a1 a2
      obtain ⟨o1, ho1⟩ : ∃ o1, x.args[1].op = o1 := ⟨_, rfl⟩
      obtain ⟨o2, ho2⟩ : ∃ o2, x.args[2].op = o2 := ⟨_, rfl⟩
      rw [ho1] at r1
      rw [ho2] at r2
      rw [ho1, ho2] at HFO
      clear ho1 ho2 l1 l2
      have hl3 := HL7.out
      rw [hl3] at d15
      clear hl3
      have hz12 : (o1 = 30 ∧ o2 = 30) ∨ (o1 = 30 ∧ (o2 != 30) = true ∧ o2 ≠ 30) ∨ ((o1 != 30) = true ∧ o1 ≠ 30) := by
        by_cases z1 : o1 = 30
        · by_cases z2 : o2 = 30
          · exact .inl ⟨z1, z2⟩
          · exact .inr (.inl ⟨z1, by simpa using z2, z2⟩)
        · exact .inr (.inr ⟨by simpa using z1, z1⟩)
      rcases hz12 with ⟨rfl, rfl⟩ | ⟨rfl, z2, z3⟩ | ⟨z1, z3⟩
      all_goals
        by_cases hnm : x.name.toList = []
        all_goals
          go_wp2_with fail
          all_goals
            (go_ret
             refine ⟨ret_bool (bool_of ?_), by with_reducible exact HT.out⟩
             have hv := HFO.out
             rw [hv]
             clear hv HFO
             first | (simp [*]; done) | (simp; omega) | grind)
end Go.Proofs.YtfegnmbdgdjkgaaGreatDoor

/- qparse.shape: what it asks of a node, by class of operator (printed by gen36.py). -/
namespace Go.Proofs.YtfegnmbdgdjkgaaGreatDoor
open Go.RowKit

set_option maxRecDepth 100000 in
set_option maxHeartbeats 6400000 in
set_option linter.unusedVariables false in
theorem shape_p_12 (x : ExprD) (w : World) (B N : Nat) (cs : List Value) (hN : N ≤ 1073741824) (hB : B ≤ w.heap.size) (he : ExprD.At w B N x cs) (ho : x.op = 12) (hsm : x.args.length ≤ 65536) : Calls Tryz.prog 42 #[.agg cs.toArray] w (BolR (formB x) w) := by
  obtain ⟨aa, fa, ac, fc, vs, hh⟩ := he.has
  have H0 := Lib.hid (show Below w.heap.size w (w.alloc (.cells cs.toArray 34)) from belowBox w _)
  have hvr := Lib.hid (show CellsAt (w.alloc (.cells cs.toArray 34)) w.heap.size (0 + 2) vs from hh.valRange (box_at w cs 34))
  have HV := Lib.hid hh.atVal
  have HA := Lib.hid hh.atArgs
  have hl := Lib.hid (show (Tryz.prog.info? 31).map (·.size) = some vs.length by rw [hh.atVal.len]; exact sizeV)
  have hs0 := Lib.hid (show w.heap.size < (w.alloc (.cells cs.toArray 34)).heap.size by rw [World.size_alloc]; omega)
  have HX := Lib.hid (box_at w cs 34)
  have hlen : x.args.length ≤ N := hh.own.2.2.1
  have hflen : x.funcs.length ≤ N := hh.own.2.2.2
  have c0 := hh.op
  have c1 := hh.name
  have c15 := hh.args
  have c16 := hh.funcs
  have H1 := Lib.hid (show 1 ≤ x.op ∧ x.op ≤ 29 by omega)
  have H30 := Lib.hid (show 1 ≤ (12 : Int) ∧ (12 : Int) ≤ 30 by omega)
  have HO := Lib.hid ho
  rw [ho] at c0
  clear hh he ho
  have HSM := Lib.hid hsm
  clear hsm
  go_enter Tryz.func42, Tryz.ntmps42
  go_wp2_with fail
  refine (count_p _ x.args.length (by omega) _).mono ?_
  rintro e w1 ⟨rfl, heq⟩
  rw [← heq] at H0 hvr hs0 HX
  clear heq
  have b0 := HX.out.get0 c0
  have b15 := HX.out.get0 c15
  have b16 := HX.out.get0 c16
  obtain ⟨v, hv⟩ : ∃ v, cntP 12 x.args.length = v := ⟨_, rfl⟩
  have HCV := Lib.hid (show cntP x.op x.args.length = v by rw [HO.out]; exact hv)
  rw [hv]
  clear hv
  cases v
  case false =>
    have HF := Lib.hid (form_bad_cnt HCV.out)
    go_wp2_with fail
    go_ret
    exact ⟨ret_bool HF.out.symm, H0.out⟩
  have HV1 := Lib.hid (show ValD.At w1 B N x.val vs from HV.out.below (H0.out.mono hB))
  have HVR := Lib.hid hvr.out.range
  go_wp2_with (refine wpList_load_mid_e rfl 31 _ rfl w.heap.size (0 + 2) rfl vs _ HVR.out Tryz.underlying31 rfl hl.out ?_)
  refine (zero_p x.val _ B N vs HV1.out).mono ?_
  rintro e2 w2 ⟨rfl, hb2⟩
  have HB2 := Lib.hid hb2
  have d0 := (HX.out.then hb2 hs0.out).get0 c0
  have d15 := (HX.out.then hb2 hs0.out).get0 c15
  have d16 := (HX.out.then hb2 hs0.out).get0 c16
  clear hb2 b0 b15 b16
  obtain ⟨z, hz⟩ : ∃ z, zeroB x.val = z := ⟨_, rfl⟩
  have HZ := Lib.hid hz
  rw [hz]
  clear hz
  cases z
  case false =>
    have HF := Lib.hid (form_bad_zero (by rw [HO.out]; decide) HZ.out)
    go_wp2_with fail
    go_ret
    exact ⟨ret_bool HF.out.symm, belowThen H0.out HB2.out⟩
  by_cases hfu : 0 < x.funcs.length
  case pos =>
    have HF := Lib.hid (form_bad_fun (by rw [HO.out]; decide) hfu)
    go_wp2_with fail
    go_ret
    exact ⟨ret_bool HF.out.symm, belowThen H0.out HB2.out⟩
  have HFU := Lib.hid hfu
  go_wp2_with fail
  go_simp
  clear d0 d15 d16
  go_loopw [47] (fun i wr => ∃ (k : Nat), k ≤ x.args.length ∧ i = .int .i64 k ∧ (∀ j, j < k → argB x.op x.args j = true) ∧ Below w1.heap.size w1 wr) (fun i _ => x.args.length - (intOf i).toNat)
  case atStart => exact ⟨0, by omega, rfl, fun j hj => absurd hj (by omega), HB2.out⟩
  case round =>
    obtain ⟨k, hk, rfl, hall, hbel⟩ := hrel
    have HB := Lib.hid hbel
    have HALL := Lib.hid hall
    have RX := Lib.hid (HX.out.below HB.out hs0.out)
    have hsr := Lib.hid (Nat.lt_of_lt_of_le hs0.out HB.out.size)
    clear hbel hall
    by_cases hlt : k < x.args.length
    · have HG := Lib.hid (argB_get x.op hlt)
      have HBA := Lib.hid (fun h => form_bad_arg (x := x) hlt h)
      have hcp := cnt_parts HCV.out
      have HOO := Lib.hid (opt_opt hcp.1 hlt ⟨hcp.2.1, hcp.2.2.1, fun _ => HSM.out⟩)
      clear hcp
      obtain ⟨b, p, rfl, hb, hget⟩ := HA.out.get (by intro h; simp [h] at hlt)
      obtain ⟨es, g1, g2⟩ := hget k hlt
      have gb := Nat.lt_of_lt_of_le hb (Nat.le_trans hB H0.out.size)
      have HR := Lib.hid (((g1.below H0.out (Nat.lt_of_lt_of_le hb hB))).below HB.out gb).range
      have HE := Lib.hid (((g2.below (H0.out.mono hB)).below (HB.out.mono (Nat.le_trans hB H0.out.size))).below ((belowBox wr (.cells es.toArray 34)).mono (Nat.le_trans hB (Nat.le_trans H0.out.size HB.out.size))))
      have hle := Lib.hid (show (Tryz.prog.info? 34).map (·.size) = some es.length by rw [g2.len]; exact sizeE)
      have hle2 := Lib.hid (show (Tryz.prog.info? 34).map (·.size) = some es.toArray.size by rw [List.size_toArray, g2.len]; exact sizeE)
      have h17 := Lib.hid (show 17 = es.toArray.size by rw [List.size_toArray, g2.len])
      have hone := Lib.hid (show es.toArray.all (·.oneCell') = true from Go.all_oneCell_toArray g2.one)
      obtain ⟨aa1, fa1, ac1, fc1, vs1, gh⟩ := g2.has
      have f0 := gh.op
      clear gh g1 g2 hget gb
      have HBX := Lib.hid (belowThen HB.out (belowBox wr (.cells es.toArray 34)))
      have k0 := (RX.out.then (belowBox wr (.cells es.toArray 34)) hsr.out).get0 c0
      by_cases hz : x.args[k].op = 30
      · have HZ3 := Lib.hid hz
        rw [hz] at f0
        have r0 := (box_at wr es 34).get0 f0
        clear hz
        go_wp2_with (first
          | ((with_reducible show wpList _ _ _ (⟨some 51, _, _, _, _, _⟩ :: _) _ _); refine wpList_load_mid_e rfl 34 _ rfl b (p + k * 17) rfl es _ HR.out Tryz.underlying34 rfl hle.out ?_)
          | ((with_reducible show wpList _ _ _ (⟨none, .store 34 (.tmp 4) _, _, _, _, _⟩ :: _) _ _); refine wpList_store_new rfl 34 _ _ rfl _ es.toArray rfl rfl hle2.out h17.out hone.out ?_))
        refine (optional_p _ k _).mono ?_
        rintro e3 w3 ⟨rfl, rfl⟩
        obtain ⟨q, hq⟩ : ∃ q, optP 12 k = q := ⟨_, rfl⟩
        have HQ := Lib.hid (show decide (optE x.op ≤ k) = q by rw [← HOO.out]; rw [HO.out]; exact hq)
        rw [hq]
        clear hq
        cases q
        case false =>
          have HF := Lib.hid (HBA.out (by rw [HG.out, if_pos HZ3.out, HQ.out]; rfl))
          go_wp2_with fail
          go_ret
          exact ⟨ret_bool HF.out.symm, belowThen H0.out HBX.out⟩
        go_wp2_with (refine wpList_load_mid_e rfl 34 _ rfl wr.heap.size 0 rfl es _ (box_at wr es 34).range Tryz.underlying34 rfl hle.out ?_)
        refine (absent_p x.args[k] _ B N es (Nat.le_trans hB (Nat.le_trans H0.out.size HBX.out.size)) HE.out).mono ?_
        rintro e4 w4 ⟨rfl, hb4⟩
        have HB4 := Lib.hid (belowThen HBX.out hb4)
        clear hb4
        obtain ⟨u, hu⟩ : ∃ u, absB x.args[k] = u := ⟨_, rfl⟩
        have HGV := Lib.hid (show argB x.op x.args k = u by rw [HG.out, if_pos HZ3.out, hu, HQ.out]; simp)
        rw [hu]
        clear hu
        cases u with
        | true =>
          go_wp2_with fail
          go_roundw
          case rel => exact ⟨k + 1, by omega, by go_num, fun j hj => (by
            by_cases hjk : j = k
            · rw [hjk]; exact HGV.out
            · exact HALL.out j (by omega)), HB4.out⟩
          case measure => simp [intOf]; omega
        | false =>
          have HF := Lib.hid (HBA.out HGV.out)
          go_wp2_with fail
          go_ret
          exact ⟨ret_bool HF.out.symm, belowThen H0.out HB4.out⟩
      · have HGV := Lib.hid (show argB x.op x.args k = true by rw [HG.out, if_neg hz])
        have hz' : (x.args[k].op == 30) = false := by simpa using hz
        have r0 := (box_at wr es 34).get0 f0
        clear hz
        go_wp2_with (first
          | ((with_reducible show wpList _ _ _ (⟨some 51, _, _, _, _, _⟩ :: _) _ _); refine wpList_load_mid_e rfl 34 _ rfl b (p + k * 17) rfl es _ HR.out Tryz.underlying34 rfl hle.out ?_)
          | ((with_reducible show wpList _ _ _ (⟨none, .store 34 (.tmp 4) _, _, _, _, _⟩ :: _) _ _); refine wpList_store_new rfl 34 _ _ rfl _ es.toArray rfl rfl hle2.out h17.out hone.out ?_))
        go_roundw
        case rel => exact ⟨k + 1, by omega, by go_num, fun j hj => (by
          by_cases hjk : j = k
          · rw [hjk]; exact HGV.out
          · exact HALL.out j (by omega)), HBX.out⟩
        case measure => simp [intOf]; omega
    · have HT := Lib.hid (belowThen H0.out HB.out)
      have d0 := RX.out.get0 c0
      have d1 := RX.out.get0 c1
      have d15 := RX.out.get0 c15
      have HFO := Lib.hid (form_12 HO.out HCV.out (args_all fun j hj => HALL.out j (by omega)))
      rw [HZ.out] at HFO
      have hfu := HFU.out
      obtain ⟨q, hq⟩ : ∃ b, operB 12 x.name.toList = b := ⟨_, rfl⟩
      have HQ := Lib.hid hq
      rw [hq] at HFO
      clear hq
      go_wp2_with fail
      refine (operator_p12 x.name _).mono ?_
      rintro e4 w4 ⟨rfl, rfl⟩
      rw [HQ.out]
      cases q
      all_goals
        go_wp2_with fail
        all_goals
          (go_ret
           refine ⟨ret_bool (bool_of ?_), by with_reducible exact HT.out⟩
           have hv := HFO.out
           rw [hv]
           clear hv HFO
           first | (simp [*]; done) | (simp; omega) | grind)
end Go.Proofs.YtfegnmbdgdjkgaaGreatDoor

/- qparse.shape: what it asks of a node, by class of operator (printed by gen36.py). -/
namespace Go.Proofs.YtfegnmbdgdjkgaaGreatDoor
open Go.RowKit

set_option maxRecDepth 100000 in
set_option maxHeartbeats 6400000 in
set_option linter.unusedVariables false in
theorem shape_p_13 (x : ExprD) (w : World) (B N : Nat) (cs : List Value) (hN : N ≤ 1073741824) (hB : B ≤ w.heap.size) (he : ExprD.At w B N x cs) (ho : x.op = 13) (hsm : x.args.length ≤ 65536) : Calls Tryz.prog 42 #[.agg cs.toArray] w (BolR (formB x) w) := by
  obtain ⟨aa, fa, ac, fc, vs, hh⟩ := he.has
  have H0 := Lib.hid (show Below w.heap.size w (w.alloc (.cells cs.toArray 34)) from belowBox w _)
  have hvr := Lib.hid (show CellsAt (w.alloc (.cells cs.toArray 34)) w.heap.size (0 + 2) vs from hh.valRange (box_at w cs 34))
  have HV := Lib.hid hh.atVal
  have HA := Lib.hid hh.atArgs
  have hl := Lib.hid (show (Tryz.prog.info? 31).map (·.size) = some vs.length by rw [hh.atVal.len]; exact sizeV)
  have hs0 := Lib.hid (show w.heap.size < (w.alloc (.cells cs.toArray 34)).heap.size by rw [World.size_alloc]; omega)
  have HX := Lib.hid (box_at w cs 34)
  have hlen : x.args.length ≤ N := hh.own.2.2.1
  have hflen : x.funcs.length ≤ N := hh.own.2.2.2
  have c0 := hh.op
  have c1 := hh.name
  have c15 := hh.args
  have c16 := hh.funcs
  have H1 := Lib.hid (show 1 ≤ x.op ∧ x.op ≤ 29 by omega)
  have H30 := Lib.hid (show 1 ≤ (13 : Int) ∧ (13 : Int) ≤ 30 by omega)
  have HO := Lib.hid ho
  rw [ho] at c0
  clear hh he ho
  have HSM := Lib.hid hsm
  clear hsm
  go_enter Tryz.func42, Tryz.ntmps42
  go_wp2_with fail
  refine (count_p _ x.args.length (by omega) _).mono ?_
  rintro e w1 ⟨rfl, heq⟩
  rw [← heq] at H0 hvr hs0 HX
  clear heq
  have b0 := HX.out.get0 c0
  have b15 := HX.out.get0 c15
  have b16 := HX.out.get0 c16
  obtain ⟨v, hv⟩ : ∃ v, cntP 13 x.args.length = v := ⟨_, rfl⟩
  have HCV := Lib.hid (show cntP x.op x.args.length = v by rw [HO.out]; exact hv)
  rw [hv]
  clear hv
  cases v
  case false =>
    have HF := Lib.hid (form_bad_cnt HCV.out)
    go_wp2_with fail
    go_ret
    exact ⟨ret_bool HF.out.symm, H0.out⟩
  have HV1 := Lib.hid (show ValD.At w1 B N x.val vs from HV.out.below (H0.out.mono hB))
  have HVR := Lib.hid hvr.out.range
  go_wp2_with (refine wpList_load_mid_e rfl 31 _ rfl w.heap.size (0 + 2) rfl vs _ HVR.out Tryz.underlying31 rfl hl.out ?_)
  refine (zero_p x.val _ B N vs HV1.out).mono ?_
  rintro e2 w2 ⟨rfl, hb2⟩
  have HB2 := Lib.hid hb2
  have d0 := (HX.out.then hb2 hs0.out).get0 c0
  have d15 := (HX.out.then hb2 hs0.out).get0 c15
  have d16 := (HX.out.then hb2 hs0.out).get0 c16
  clear hb2 b0 b15 b16
  obtain ⟨z, hz⟩ : ∃ z, zeroB x.val = z := ⟨_, rfl⟩
  have HZ := Lib.hid hz
  rw [hz]
  clear hz
  cases z
  case false =>
    have HF := Lib.hid (form_bad_zero (by rw [HO.out]; decide) HZ.out)
    go_wp2_with fail
    go_ret
    exact ⟨ret_bool HF.out.symm, belowThen H0.out HB2.out⟩
  by_cases hfu : 0 < x.funcs.length
  case pos =>
    have HF := Lib.hid (form_bad_fun (by rw [HO.out]; decide) hfu)
    go_wp2_with fail
    go_ret
    exact ⟨ret_bool HF.out.symm, belowThen H0.out HB2.out⟩
  have HFU := Lib.hid hfu
  go_wp2_with fail
  go_simp
  clear d0 d15 d16
  go_loopw [47] (fun i wr => ∃ (k : Nat), k ≤ x.args.length ∧ i = .int .i64 k ∧ (∀ j, j < k → argB x.op x.args j = true) ∧ Below w1.heap.size w1 wr) (fun i _ => x.args.length - (intOf i).toNat)
  case atStart => exact ⟨0, by omega, rfl, fun j hj => absurd hj (by omega), HB2.out⟩
  case round =>
    obtain ⟨k, hk, rfl, hall, hbel⟩ := hrel
    have HB := Lib.hid hbel
    have HALL := Lib.hid hall
    have RX := Lib.hid (HX.out.below HB.out hs0.out)
    have hsr := Lib.hid (Nat.lt_of_lt_of_le hs0.out HB.out.size)
    clear hbel hall
    by_cases hlt : k < x.args.length
    · have HG := Lib.hid (argB_get x.op hlt)
      have HBA := Lib.hid (fun h => form_bad_arg (x := x) hlt h)
      have hcp := cnt_parts HCV.out
      have HOO := Lib.hid (opt_opt hcp.1 hlt ⟨hcp.2.1, hcp.2.2.1, fun _ => HSM.out⟩)
      clear hcp
      obtain ⟨b, p, rfl, hb, hget⟩ := HA.out.get (by intro h; simp [h] at hlt)
      obtain ⟨es, g1, g2⟩ := hget k hlt
      have gb := Nat.lt_of_lt_of_le hb (Nat.le_trans hB H0.out.size)
      have HR := Lib.hid (((g1.below H0.out (Nat.lt_of_lt_of_le hb hB))).below HB.out gb).range
      have HE := Lib.hid (((g2.below (H0.out.mono hB)).below (HB.out.mono (Nat.le_trans hB H0.out.size))).below ((belowBox wr (.cells es.toArray 34)).mono (Nat.le_trans hB (Nat.le_trans H0.out.size HB.out.size))))
      have hle := Lib.hid (show (Tryz.prog.info? 34).map (·.size) = some es.length by rw [g2.len]; exact sizeE)
      have hle2 := Lib.hid (show (Tryz.prog.info? 34).map (·.size) = some es.toArray.size by rw [List.size_toArray, g2.len]; exact sizeE)
      have h17 := Lib.hid (show 17 = es.toArray.size by rw [List.size_toArray, g2.len])
      have hone := Lib.hid (show es.toArray.all (·.oneCell') = true from Go.all_oneCell_toArray g2.one)
      obtain ⟨aa1, fa1, ac1, fc1, vs1, gh⟩ := g2.has
      have f0 := gh.op
      clear gh g1 g2 hget gb
      have HBX := Lib.hid (belowThen HB.out (belowBox wr (.cells es.toArray 34)))
      have k0 := (RX.out.then (belowBox wr (.cells es.toArray 34)) hsr.out).get0 c0
      by_cases hz : x.args[k].op = 30
      · have HZ3 := Lib.hid hz
        rw [hz] at f0
        have r0 := (box_at wr es 34).get0 f0
        clear hz
        go_wp2_with (first
          | ((with_reducible show wpList _ _ _ (⟨some 51, _, _, _, _, _⟩ :: _) _ _); refine wpList_load_mid_e rfl 34 _ rfl b (p + k * 17) rfl es _ HR.out Tryz.underlying34 rfl hle.out ?_)
          | ((with_reducible show wpList _ _ _ (⟨none, .store 34 (.tmp 4) _, _, _, _, _⟩ :: _) _ _); refine wpList_store_new rfl 34 _ _ rfl _ es.toArray rfl rfl hle2.out h17.out hone.out ?_))
        refine (optional_p _ k _).mono ?_
        rintro e3 w3 ⟨rfl, rfl⟩
        obtain ⟨q, hq⟩ : ∃ q, optP 13 k = q := ⟨_, rfl⟩
        have HQ := Lib.hid (show decide (optE x.op ≤ k) = q by rw [← HOO.out]; rw [HO.out]; exact hq)
        rw [hq]
        clear hq
        cases q
        case false =>
          have HF := Lib.hid (HBA.out (by rw [HG.out, if_pos HZ3.out, HQ.out]; rfl))
          go_wp2_with fail
          go_ret
          exact ⟨ret_bool HF.out.symm, belowThen H0.out HBX.out⟩
        go_wp2_with (refine wpList_load_mid_e rfl 34 _ rfl wr.heap.size 0 rfl es _ (box_at wr es 34).range Tryz.underlying34 rfl hle.out ?_)
        refine (absent_p x.args[k] _ B N es (Nat.le_trans hB (Nat.le_trans H0.out.size HBX.out.size)) HE.out).mono ?_
        rintro e4 w4 ⟨rfl, hb4⟩
        have HB4 := Lib.hid (belowThen HBX.out hb4)
        clear hb4
        obtain ⟨u, hu⟩ : ∃ u, absB x.args[k] = u := ⟨_, rfl⟩
        have HGV := Lib.hid (show argB x.op x.args k = u by rw [HG.out, if_pos HZ3.out, hu, HQ.out]; simp)
        rw [hu]
        clear hu
        cases u with
        | true =>
          go_wp2_with fail
          go_roundw
          case rel => exact ⟨k + 1, by omega, by go_num, fun j hj => (by
            by_cases hjk : j = k
            · rw [hjk]; exact HGV.out
            · exact HALL.out j (by omega)), HB4.out⟩
          case measure => simp [intOf]; omega
        | false =>
          have HF := Lib.hid (HBA.out HGV.out)
          go_wp2_with fail
          go_ret
          exact ⟨ret_bool HF.out.symm, belowThen H0.out HB4.out⟩
      · have HGV := Lib.hid (show argB x.op x.args k = true by rw [HG.out, if_neg hz])
        have hz' : (x.args[k].op == 30) = false := by simpa using hz
        have r0 := (box_at wr es 34).get0 f0
        clear hz
        go_wp2_with (first
          | ((with_reducible show wpList _ _ _ (⟨some 51, _, _, _, _, _⟩ :: _) _ _); refine wpList_load_mid_e rfl 34 _ rfl b (p + k * 17) rfl es _ HR.out Tryz.underlying34 rfl hle.out ?_)
          | ((with_reducible show wpList _ _ _ (⟨none, .store 34 (.tmp 4) _, _, _, _, _⟩ :: _) _ _); refine wpList_store_new rfl 34 _ _ rfl _ es.toArray rfl rfl hle2.out h17.out hone.out ?_))
        go_roundw
        case rel => exact ⟨k + 1, by omega, by go_num, fun j hj => (by
          by_cases hjk : j = k
          · rw [hjk]; exact HGV.out
          · exact HALL.out j (by omega)), HBX.out⟩
        case measure => simp [intOf]; omega
    · have HT := Lib.hid (belowThen H0.out HB.out)
      have d0 := RX.out.get0 c0
      have d1 := RX.out.get0 c1
      have d15 := RX.out.get0 c15
      have HFO := Lib.hid (form_13 HO.out HCV.out (args_all fun j hj => HALL.out j (by omega)))
      rw [HZ.out] at HFO
      have hfu := HFU.out
      obtain ⟨q, hq⟩ : ∃ b, operB 13 x.name.toList = b := ⟨_, rfl⟩
      have HQ := Lib.hid hq
      rw [hq] at HFO
      clear hq
      go_wp2_with fail
      refine (operator_p13 x.name _).mono ?_
      rintro e4 w4 ⟨rfl, rfl⟩
      rw [HQ.out]
      cases q
      all_goals
        go_wp2_with fail
        all_goals
          (go_ret
           refine ⟨ret_bool (bool_of ?_), by with_reducible exact HT.out⟩
           have hv := HFO.out
           rw [hv]
           clear hv HFO
           first | (simp [*]; done) | (simp; omega) | grind)
end Go.Proofs.YtfegnmbdgdjkgaaGreatDoor

/- qparse.shape: what it asks of a node, by class of operator (printed by gen36.py). -/
namespace Go.Proofs.YtfegnmbdgdjkgaaGreatDoor
open Go.RowKit

set_option maxRecDepth 100000 in
set_option maxHeartbeats 6400000 in
set_option linter.unusedVariables false in
theorem shape_p_21 (x : ExprD) (w : World) (B N : Nat) (cs : List Value) (hN : N ≤ 1073741824) (hB : B ≤ w.heap.size) (he : ExprD.At w B N x cs) (ho : x.op = 21) (hsm : x.args.length ≤ 65536) : Calls Tryz.prog 42 #[.agg cs.toArray] w (BolR (formB x) w) := by
  obtain ⟨aa, fa, ac, fc, vs, hh⟩ := he.has
  have H0 := Lib.hid (show Below w.heap.size w (w.alloc (.cells cs.toArray 34)) from belowBox w _)
  have hvr := Lib.hid (show CellsAt (w.alloc (.cells cs.toArray 34)) w.heap.size (0 + 2) vs from hh.valRange (box_at w cs 34))
  have HV := Lib.hid hh.atVal
  have HA := Lib.hid hh.atArgs
  have hl := Lib.hid (show (Tryz.prog.info? 31).map (·.size) = some vs.length by rw [hh.atVal.len]; exact sizeV)
  have hs0 := Lib.hid (show w.heap.size < (w.alloc (.cells cs.toArray 34)).heap.size by rw [World.size_alloc]; omega)
  have HX := Lib.hid (box_at w cs 34)
  have hlen : x.args.length ≤ N := hh.own.2.2.1
  have hflen : x.funcs.length ≤ N := hh.own.2.2.2
  have c0 := hh.op
  have c1 := hh.name
  have c15 := hh.args
  have c16 := hh.funcs
  have H1 := Lib.hid (show 1 ≤ x.op ∧ x.op ≤ 29 by omega)
  have H30 := Lib.hid (show 1 ≤ (21 : Int) ∧ (21 : Int) ≤ 30 by omega)
  have HO := Lib.hid ho
  rw [ho] at c0
  clear hh he ho
  have HSM := Lib.hid hsm
  clear hsm
  go_enter Tryz.func42, Tryz.ntmps42
  go_wp2_with fail
  refine (count_p _ x.args.length (by omega) _).mono ?_
  rintro e w1 ⟨rfl, heq⟩
  rw [← heq] at H0 hvr hs0 HX
  clear heq
  have b0 := HX.out.get0 c0
  have b15 := HX.out.get0 c15
  have b16 := HX.out.get0 c16
  obtain ⟨v, hv⟩ : ∃ v, cntP 21 x.args.length = v := ⟨_, rfl⟩
  have HCV := Lib.hid (show cntP x.op x.args.length = v by rw [HO.out]; exact hv)
  rw [hv]
  clear hv
  cases v
  case false =>
    have HF := Lib.hid (form_bad_cnt HCV.out)
    go_wp2_with fail
    go_ret
    exact ⟨ret_bool HF.out.symm, H0.out⟩
  have HV1 := Lib.hid (show ValD.At w1 B N x.val vs from HV.out.below (H0.out.mono hB))
  have HVR := Lib.hid hvr.out.range
  go_wp2_with (refine wpList_load_mid_e rfl 31 _ rfl w.heap.size (0 + 2) rfl vs _ HVR.out Tryz.underlying31 rfl hl.out ?_)
  refine (zero_p x.val _ B N vs HV1.out).mono ?_
  rintro e2 w2 ⟨rfl, hb2⟩
  have HB2 := Lib.hid hb2
  have d0 := (HX.out.then hb2 hs0.out).get0 c0
  have d15 := (HX.out.then hb2 hs0.out).get0 c15
  have d16 := (HX.out.then hb2 hs0.out).get0 c16
  clear hb2 b0 b15 b16
  obtain ⟨z, hz⟩ : ∃ z, zeroB x.val = z := ⟨_, rfl⟩
  have HZ := Lib.hid hz
  rw [hz]
  clear hz
  cases z
  case false =>
    have HF := Lib.hid (form_bad_zero (by rw [HO.out]; decide) HZ.out)
    go_wp2_with fail
    go_ret
    exact ⟨ret_bool HF.out.symm, belowThen H0.out HB2.out⟩
  by_cases hfu : 0 < x.funcs.length
  case pos =>
    have HF := Lib.hid (form_bad_fun (by rw [HO.out]; decide) hfu)
    go_wp2_with fail
    go_ret
    exact ⟨ret_bool HF.out.symm, belowThen H0.out HB2.out⟩
  have HFU := Lib.hid hfu
  go_wp2_with fail
  go_simp
  clear d0 d15 d16
  go_loopw [47] (fun i wr => ∃ (k : Nat), k ≤ x.args.length ∧ i = .int .i64 k ∧ (∀ j, j < k → argB x.op x.args j = true) ∧ Below w1.heap.size w1 wr) (fun i _ => x.args.length - (intOf i).toNat)
  case atStart => exact ⟨0, by omega, rfl, fun j hj => absurd hj (by omega), HB2.out⟩
  case round =>
    obtain ⟨k, hk, rfl, hall, hbel⟩ := hrel
    have HB := Lib.hid hbel
    have HALL := Lib.hid hall
    have RX := Lib.hid (HX.out.below HB.out hs0.out)
    have hsr := Lib.hid (Nat.lt_of_lt_of_le hs0.out HB.out.size)
    clear hbel hall
    by_cases hlt : k < x.args.length
    · have HG := Lib.hid (argB_get x.op hlt)
      have HBA := Lib.hid (fun h => form_bad_arg (x := x) hlt h)
      have hcp := cnt_parts HCV.out
      have HOO := Lib.hid (opt_opt hcp.1 hlt ⟨hcp.2.1, hcp.2.2.1, fun _ => HSM.out⟩)
      clear hcp
      obtain ⟨b, p, rfl, hb, hget⟩ := HA.out.get (by intro h; simp [h] at hlt)
      obtain ⟨es, g1, g2⟩ := hget k hlt
      have gb := Nat.lt_of_lt_of_le hb (Nat.le_trans hB H0.out.size)
      have HR := Lib.hid (((g1.below H0.out (Nat.lt_of_lt_of_le hb hB))).below HB.out gb).range
      have HE := Lib.hid (((g2.below (H0.out.mono hB)).below (HB.out.mono (Nat.le_trans hB H0.out.size))).below ((belowBox wr (.cells es.toArray 34)).mono (Nat.le_trans hB (Nat.le_trans H0.out.size HB.out.size))))
      have hle := Lib.hid (show (Tryz.prog.info? 34).map (·.size) = some es.length by rw [g2.len]; exact sizeE)
      have hle2 := Lib.hid (show (Tryz.prog.info? 34).map (·.size) = some es.toArray.size by rw [List.size_toArray, g2.len]; exact sizeE)
      have h17 := Lib.hid (show 17 = es.toArray.size by rw [List.size_toArray, g2.len])
      have hone := Lib.hid (show es.toArray.all (·.oneCell') = true from Go.all_oneCell_toArray g2.one)
      obtain ⟨aa1, fa1, ac1, fc1, vs1, gh⟩ := g2.has
      have f0 := gh.op
      clear gh g1 g2 hget gb
      have HBX := Lib.hid (belowThen HB.out (belowBox wr (.cells es.toArray 34)))
      have k0 := (RX.out.then (belowBox wr (.cells es.toArray 34)) hsr.out).get0 c0
      by_cases hz : x.args[k].op = 30
      · have HZ3 := Lib.hid hz
        rw [hz] at f0
        have r0 := (box_at wr es 34).get0 f0
        clear hz
        go_wp2_with (first
          | ((with_reducible show wpList _ _ _ (⟨some 51, _, _, _, _, _⟩ :: _) _ _); refine wpList_load_mid_e rfl 34 _ rfl b (p + k * 17) rfl es _ HR.out Tryz.underlying34 rfl hle.out ?_)
          | ((with_reducible show wpList _ _ _ (⟨none, .store 34 (.tmp 4) _, _, _, _, _⟩ :: _) _ _); refine wpList_store_new rfl 34 _ _ rfl _ es.toArray rfl rfl hle2.out h17.out hone.out ?_))
        refine (optional_p _ k _).mono ?_
        rintro e3 w3 ⟨rfl, rfl⟩
        obtain ⟨q, hq⟩ : ∃ q, optP 21 k = q := ⟨_, rfl⟩
        have HQ := Lib.hid (show decide (optE x.op ≤ k) = q by rw [← HOO.out]; rw [HO.out]; exact hq)
        rw [hq]
        clear hq
        cases q
        case false =>
          have HF := Lib.hid (HBA.out (by rw [HG.out, if_pos HZ3.out, HQ.out]; rfl))
          go_wp2_with fail
          go_ret
          exact ⟨ret_bool HF.out.symm, belowThen H0.out HBX.out⟩
        go_wp2_with (refine wpList_load_mid_e rfl 34 _ rfl wr.heap.size 0 rfl es _ (box_at wr es 34).range Tryz.underlying34 rfl hle.out ?_)
        refine (absent_p x.args[k] _ B N es (Nat.le_trans hB (Nat.le_trans H0.out.size HBX.out.size)) HE.out).mono ?_
        rintro e4 w4 ⟨rfl, hb4⟩
        have HB4 := Lib.hid (belowThen HBX.out hb4)
        clear hb4
        obtain ⟨u, hu⟩ : ∃ u, absB x.args[k] = u := ⟨_, rfl⟩
        have HGV := Lib.hid (show argB x.op x.args k = u by rw [HG.out, if_pos HZ3.out, hu, HQ.out]; simp)
        rw [hu]
        clear hu
        cases u with
        | true =>
          go_wp2_with fail
          go_roundw
          case rel => exact ⟨k + 1, by omega, by go_num, fun j hj => (by
            by_cases hjk : j = k
            · rw [hjk]; exact HGV.out
            · exact HALL.out j (by omega)), HB4.out⟩
          case measure => simp [intOf]; omega
        | false =>
          have HF := Lib.hid (HBA.out HGV.out)
          go_wp2_with fail
          go_ret
          exact ⟨ret_bool HF.out.symm, belowThen H0.out HB4.out⟩
      · have HGV := Lib.hid (show argB x.op x.args k = true by rw [HG.out, if_neg hz])
        have hz' : (x.args[k].op == 30) = false := by simpa using hz
        have r0 := (box_at wr es 34).get0 f0
        clear hz
        go_wp2_with (first
          | ((with_reducible show wpList _ _ _ (⟨some 51, _, _, _, _, _⟩ :: _) _ _); refine wpList_load_mid_e rfl 34 _ rfl b (p + k * 17) rfl es _ HR.out Tryz.underlying34 rfl hle.out ?_)
          | ((with_reducible show wpList _ _ _ (⟨none, .store 34 (.tmp 4) _, _, _, _, _⟩ :: _) _ _); refine wpList_store_new rfl 34 _ _ rfl _ es.toArray rfl rfl hle2.out h17.out hone.out ?_))
        go_roundw
        case rel => exact ⟨k + 1, by omega, by go_num, fun j hj => (by
          by_cases hjk : j = k
          · rw [hjk]; exact HGV.out
          · exact HALL.out j (by omega)), HBX.out⟩
        case measure => simp [intOf]; omega
    · have HT := Lib.hid (belowThen H0.out HB.out)
      have d0 := RX.out.get0 c0
      have d1 := RX.out.get0 c1
      have d15 := RX.out.get0 c15
      have HFO := Lib.hid (form_21 HO.out HCV.out (args_all fun j hj => HALL.out j (by omega)))
      rw [HZ.out] at HFO
      have hfu := HFU.out
      have HI := Lib.hid (show idnB 21 = false by decide)
      by_cases hnm : x.name.toList = []
      all_goals
        go_wp2_with fail
        refine (named_p _ _ H30.out).mono ?_
        rintro e4 w4 ⟨rfl, rfl⟩
        rw [HI.out]
        go_wp2_with fail
        all_goals
          (go_ret
           refine ⟨ret_bool (bool_of ?_), by with_reducible exact HT.out⟩
           have hv := HFO.out
           rw [hv]
           clear hv HFO
           first | (simp [*]; done) | (simp; omega) | grind)
end Go.Proofs.YtfegnmbdgdjkgaaGreatDoor

/- qparse.shape: what it asks of a node, by class of operator (printed by gen36.py). -/
namespace Go.Proofs.YtfegnmbdgdjkgaaGreatDoor
open Go.RowKit

set_option maxRecDepth 100000 in
set_option maxHeartbeats 6400000 in
set_option linter.unusedVariables false in
theorem shape_p_23 (x : ExprD) (w : World) (B N : Nat) (cs : List Value) (hN : N ≤ 1073741824) (hB : B ≤ w.heap.size) (he : ExprD.At w B N x cs) (ho : x.op = 23) (hsm : x.args.length ≤ 65536) : Calls Tryz.prog 42 #[.agg cs.toArray] w (BolR (formB x) w) := by
  obtain ⟨aa, fa, ac, fc, vs, hh⟩ := he.has
  have H0 := Lib.hid (show Below w.heap.size w (w.alloc (.cells cs.toArray 34)) from belowBox w _)
  have hvr := Lib.hid (show CellsAt (w.alloc (.cells cs.toArray 34)) w.heap.size (0 + 2) vs from hh.valRange (box_at w cs 34))
  have HV := Lib.hid hh.atVal
  have HA := Lib.hid hh.atArgs
  have hl := Lib.hid (show (Tryz.prog.info? 31).map (·.size) = some vs.length by rw [hh.atVal.len]; exact sizeV)
  have hs0 := Lib.hid (show w.heap.size < (w.alloc (.cells cs.toArray 34)).heap.size by rw [World.size_alloc]; omega)
  have HX := Lib.hid (box_at w cs 34)
  have hlen : x.args.length ≤ N := hh.own.2.2.1
  have hflen : x.funcs.length ≤ N := hh.own.2.2.2
  have c0 := hh.op
  have c1 := hh.name
  have c15 := hh.args
  have c16 := hh.funcs
  have H1 := Lib.hid (show 1 ≤ x.op ∧ x.op ≤ 29 by omega)
  have H30 := Lib.hid (show 1 ≤ (23 : Int) ∧ (23 : Int) ≤ 30 by omega)
  have HO := Lib.hid ho
  rw [ho] at c0
  clear hh he ho
  have HSM := Lib.hid hsm
  clear hsm
  go_enter Tryz.func42, Tryz.ntmps42
  go_wp2_with fail
  refine (count_p _ x.args.length (by omega) _).mono ?_
  rintro e w1 ⟨rfl, heq⟩
  rw [← heq] at H0 hvr hs0 HX
  clear heq
  have b0 := HX.out.get0 c0
  have b15 := HX.out.get0 c15
  have b16 := HX.out.get0 c16
  obtain ⟨v, hv⟩ : ∃ v, cntP 23 x.args.length = v := ⟨_, rfl⟩
  have HCV := Lib.hid (show cntP x.op x.args.length = v by rw [HO.out]; exact hv)
  rw [hv]
  clear hv
  cases v
  case false =>
    have HF := Lib.hid (form_bad_cnt HCV.out)
    go_wp2_with fail
    go_ret
    exact ⟨ret_bool HF.out.symm, H0.out⟩
  have HV1 := Lib.hid (show ValD.At w1 B N x.val vs from HV.out.below (H0.out.mono hB))
  have HVR := Lib.hid hvr.out.range
  go_wp2_with (refine wpList_load_mid_e rfl 31 _ rfl w.heap.size (0 + 2) rfl vs _ HVR.out Tryz.underlying31 rfl hl.out ?_)
  refine (zero_p x.val _ B N vs HV1.out).mono ?_
  rintro e2 w2 ⟨rfl, hb2⟩
  have HB2 := Lib.hid hb2
  have d0 := (HX.out.then hb2 hs0.out).get0 c0
  have d15 := (HX.out.then hb2 hs0.out).get0 c15
  have d16 := (HX.out.then hb2 hs0.out).get0 c16
  clear hb2 b0 b15 b16
  obtain ⟨z, hz⟩ : ∃ z, zeroB x.val = z := ⟨_, rfl⟩
  have HZ := Lib.hid hz
  rw [hz]
  clear hz
  cases z
  case false =>
    have HF := Lib.hid (form_bad_zero (by rw [HO.out]; decide) HZ.out)
    go_wp2_with fail
    go_ret
    exact ⟨ret_bool HF.out.symm, belowThen H0.out HB2.out⟩
  by_cases hfu : 0 < x.funcs.length
  case neg =>
    have HF := Lib.hid (form_bad_def HO.out hfu)
    go_wp2_with fail
    go_ret
    exact ⟨ret_bool HF.out.symm, belowThen H0.out HB2.out⟩
  have HFU := Lib.hid hfu
  go_wp2_with fail
  go_simp
  clear d0 d15 d16
  go_loopw [47] (fun i wr => ∃ (k : Nat), k ≤ x.args.length ∧ i = .int .i64 k ∧ (∀ j, j < k → argB x.op x.args j = true) ∧ Below w1.heap.size w1 wr) (fun i _ => x.args.length - (intOf i).toNat)
  case atStart => exact ⟨0, by omega, rfl, fun j hj => absurd hj (by omega), HB2.out⟩
  case round =>
    obtain ⟨k, hk, rfl, hall, hbel⟩ := hrel
    have HB := Lib.hid hbel
    have HALL := Lib.hid hall
    have RX := Lib.hid (HX.out.below HB.out hs0.out)
    have hsr := Lib.hid (Nat.lt_of_lt_of_le hs0.out HB.out.size)
    clear hbel hall
    by_cases hlt : k < x.args.length
    · have HG := Lib.hid (argB_get x.op hlt)
      have HBA := Lib.hid (fun h => form_bad_arg (x := x) hlt h)
      have hcp := cnt_parts HCV.out
      have HOO := Lib.hid (opt_opt hcp.1 hlt ⟨hcp.2.1, hcp.2.2.1, fun _ => HSM.out⟩)
      clear hcp
      obtain ⟨b, p, rfl, hb, hget⟩ := HA.out.get (by intro h; simp [h] at hlt)
      obtain ⟨es, g1, g2⟩ := hget k hlt
      have gb := Nat.lt_of_lt_of_le hb (Nat.le_trans hB H0.out.size)
      have HR := Lib.hid (((g1.below H0.out (Nat.lt_of_lt_of_le hb hB))).below HB.out gb).range
      have HE := Lib.hid (((g2.below (H0.out.mono hB)).below (HB.out.mono (Nat.le_trans hB H0.out.size))).below ((belowBox wr (.cells es.toArray 34)).mono (Nat.le_trans hB (Nat.le_trans H0.out.size HB.out.size))))
      have hle := Lib.hid (show (Tryz.prog.info? 34).map (·.size) = some es.length by rw [g2.len]; exact sizeE)
      have hle2 := Lib.hid (show (Tryz.prog.info? 34).map (·.size) = some es.toArray.size by rw [List.size_toArray, g2.len]; exact sizeE)
      have h17 := Lib.hid (show 17 = es.toArray.size by rw [List.size_toArray, g2.len])
      have hone := Lib.hid (show es.toArray.all (·.oneCell') = true from Go.all_oneCell_toArray g2.one)
      obtain ⟨aa1, fa1, ac1, fc1, vs1, gh⟩ := g2.has
      have f0 := gh.op
      clear gh g1 g2 hget gb
      have HBX := Lib.hid (belowThen HB.out (belowBox wr (.cells es.toArray 34)))
      have k0 := (RX.out.then (belowBox wr (.cells es.toArray 34)) hsr.out).get0 c0
      by_cases hz : x.args[k].op = 30
      · have HZ3 := Lib.hid hz
        rw [hz] at f0
        have r0 := (box_at wr es 34).get0 f0
        clear hz
        go_wp2_with (first
          | ((with_reducible show wpList _ _ _ (⟨some 51, _, _, _, _, _⟩ :: _) _ _); refine wpList_load_mid_e rfl 34 _ rfl b (p + k * 17) rfl es _ HR.out Tryz.underlying34 rfl hle.out ?_)
          | ((with_reducible show wpList _ _ _ (⟨none, .store 34 (.tmp 4) _, _, _, _, _⟩ :: _) _ _); refine wpList_store_new rfl 34 _ _ rfl _ es.toArray rfl rfl hle2.out h17.out hone.out ?_))
        refine (optional_p _ k _).mono ?_
        rintro e3 w3 ⟨rfl, rfl⟩
        obtain ⟨q, hq⟩ : ∃ q, optP 23 k = q := ⟨_, rfl⟩
        have HQ := Lib.hid (show decide (optE x.op ≤ k) = q by rw [← HOO.out]; rw [HO.out]; exact hq)
        rw [hq]
        clear hq
        cases q
        case false =>
          have HF := Lib.hid (HBA.out (by rw [HG.out, if_pos HZ3.out, HQ.out]; rfl))
          go_wp2_with fail
          go_ret
          exact ⟨ret_bool HF.out.symm, belowThen H0.out HBX.out⟩
        go_wp2_with (refine wpList_load_mid_e rfl 34 _ rfl wr.heap.size 0 rfl es _ (box_at wr es 34).range Tryz.underlying34 rfl hle.out ?_)
        refine (absent_p x.args[k] _ B N es (Nat.le_trans hB (Nat.le_trans H0.out.size HBX.out.size)) HE.out).mono ?_
        rintro e4 w4 ⟨rfl, hb4⟩
        have HB4 := Lib.hid (belowThen HBX.out hb4)
        clear hb4
        obtain ⟨u, hu⟩ : ∃ u, absB x.args[k] = u := ⟨_, rfl⟩
        have HGV := Lib.hid (show argB x.op x.args k = u by rw [HG.out, if_pos HZ3.out, hu, HQ.out]; simp)
        rw [hu]
        clear hu
        cases u with
        | true =>
          go_wp2_with fail
          go_roundw
          case rel => exact ⟨k + 1, by omega, by go_num, fun j hj => (by
            by_cases hjk : j = k
            · rw [hjk]; exact HGV.out
            · exact HALL.out j (by omega)), HB4.out⟩
          case measure => simp [intOf]; omega
        | false =>
          have HF := Lib.hid (HBA.out HGV.out)
          go_wp2_with fail
          go_ret
          exact ⟨ret_bool HF.out.symm, belowThen H0.out HB4.out⟩
      · have HGV := Lib.hid (show argB x.op x.args k = true by rw [HG.out, if_neg hz])
        have hz' : (x.args[k].op == 30) = false := by simpa using hz
        have r0 := (box_at wr es 34).get0 f0
        clear hz
        go_wp2_with (first
          | ((with_reducible show wpList _ _ _ (⟨some 51, _, _, _, _, _⟩ :: _) _ _); refine wpList_load_mid_e rfl 34 _ rfl b (p + k * 17) rfl es _ HR.out Tryz.underlying34 rfl hle.out ?_)
          | ((with_reducible show wpList _ _ _ (⟨none, .store 34 (.tmp 4) _, _, _, _, _⟩ :: _) _ _); refine wpList_store_new rfl 34 _ _ rfl _ es.toArray rfl rfl hle2.out h17.out hone.out ?_))
        go_roundw
        case rel => exact ⟨k + 1, by omega, by go_num, fun j hj => (by
          by_cases hjk : j = k
          · rw [hjk]; exact HGV.out
          · exact HALL.out j (by omega)), HBX.out⟩
        case measure => simp [intOf]; omega
    · have HT := Lib.hid (belowThen H0.out HB.out)
      have d0 := RX.out.get0 c0
      have d1 := RX.out.get0 c1
      have d15 := RX.out.get0 c15
      have HFO := Lib.hid (form_23 HO.out HCV.out (args_all fun j hj => HALL.out j (by omega)))
      rw [HZ.out] at HFO
      have hfu := HFU.out
      have HI := Lib.hid (show idnB 23 = false by decide)
      by_cases hnm : x.name.toList = []
      all_goals
        go_wp2_with fail
        refine (named_p _ _ H30.out).mono ?_
        rintro e4 w4 ⟨rfl, rfl⟩
        rw [HI.out]
        go_wp2_with fail
        all_goals
          (go_ret
           refine ⟨ret_bool (bool_of ?_), by with_reducible exact HT.out⟩
           have hv := HFO.out
           rw [hv]
           clear hv HFO
           first | (simp [*]; done) | (simp; omega) | grind)
end Go.Proofs.YtfegnmbdgdjkgaaGreatDoor

/- qparse.shape: what it asks of a node, by class of operator (printed by gen36.py). -/
namespace Go.Proofs.YtfegnmbdgdjkgaaGreatDoor
open Go.RowKit

set_option maxRecDepth 100000 in
set_option maxHeartbeats 6400000 in
set_option linter.unusedVariables false in
theorem shape_p_25 (x : ExprD) (w : World) (B N : Nat) (cs : List Value) (hN : N ≤ 1073741824) (hB : B ≤ w.heap.size) (he : ExprD.At w B N x cs) (ho : x.op = 25) (hsm : x.args.length ≤ 65536) : Calls Tryz.prog 42 #[.agg cs.toArray] w (BolR (formB x) w) := by
  obtain ⟨aa, fa, ac, fc, vs, hh⟩ := he.has
  have H0 := Lib.hid (show Below w.heap.size w (w.alloc (.cells cs.toArray 34)) from belowBox w _)
  have hvr := Lib.hid (show CellsAt (w.alloc (.cells cs.toArray 34)) w.heap.size (0 + 2) vs from hh.valRange (box_at w cs 34))
  have HV := Lib.hid hh.atVal
  have HA := Lib.hid hh.atArgs
  have hl := Lib.hid (show (Tryz.prog.info? 31).map (·.size) = some vs.length by rw [hh.atVal.len]; exact sizeV)
  have hs0 := Lib.hid (show w.heap.size < (w.alloc (.cells cs.toArray 34)).heap.size by rw [World.size_alloc]; omega)
  have HX := Lib.hid (box_at w cs 34)
  have hlen : x.args.length ≤ N := hh.own.2.2.1
  have hflen : x.funcs.length ≤ N := hh.own.2.2.2
  have c0 := hh.op
  have c1 := hh.name
  have c15 := hh.args
  have c16 := hh.funcs
  have H1 := Lib.hid (show 1 ≤ x.op ∧ x.op ≤ 29 by omega)
  have H30 := Lib.hid (show 1 ≤ (25 : Int) ∧ (25 : Int) ≤ 30 by omega)
  have HO := Lib.hid ho
  rw [ho] at c0
  clear hh he ho
  have HSM := Lib.hid hsm
  clear hsm
  go_enter Tryz.func42, Tryz.ntmps42
  go_wp2_with fail
  refine (count_p _ x.args.length (by omega) _).mono ?_
  rintro e w1 ⟨rfl, heq⟩
  rw [← heq] at H0 hvr hs0 HX
  clear heq
  have b0 := HX.out.get0 c0
  have b15 := HX.out.get0 c15
  have b16 := HX.out.get0 c16
  obtain ⟨v, hv⟩ : ∃ v, cntP 25 x.args.length = v := ⟨_, rfl⟩
  have HCV := Lib.hid (show cntP x.op x.args.length = v by rw [HO.out]; exact hv)
  rw [hv]
  clear hv
  cases v
  case false =>
    have HF := Lib.hid (form_bad_cnt HCV.out)
    go_wp2_with fail
    go_ret
    exact ⟨ret_bool HF.out.symm, H0.out⟩
  have HV1 := Lib.hid (show ValD.At w1 B N x.val vs from HV.out.below (H0.out.mono hB))
  have HVR := Lib.hid hvr.out.range
  go_wp2_with (refine wpList_load_mid_e rfl 31 _ rfl w.heap.size (0 + 2) rfl vs _ HVR.out Tryz.underlying31 rfl hl.out ?_)
  refine (zero_p x.val _ B N vs HV1.out).mono ?_
  rintro e2 w2 ⟨rfl, hb2⟩
  have HB2 := Lib.hid hb2
  have d0 := (HX.out.then hb2 hs0.out).get0 c0
  have d15 := (HX.out.then hb2 hs0.out).get0 c15
  have d16 := (HX.out.then hb2 hs0.out).get0 c16
  clear hb2 b0 b15 b16
  obtain ⟨z, hz⟩ : ∃ z, zeroB x.val = z := ⟨_, rfl⟩
  have HZ := Lib.hid hz
  rw [hz]
  clear hz
  cases z
  case false =>
    have HF := Lib.hid (form_bad_zero (by rw [HO.out]; decide) HZ.out)
    go_wp2_with fail
    go_ret
    exact ⟨ret_bool HF.out.symm, belowThen H0.out HB2.out⟩
  by_cases hfu : 0 < x.funcs.length
  case pos =>
    have HF := Lib.hid (form_bad_fun (by rw [HO.out]; decide) hfu)
    go_wp2_with fail
    go_ret
    exact ⟨ret_bool HF.out.symm, belowThen H0.out HB2.out⟩
  have HFU := Lib.hid hfu
  go_wp2_with fail
  go_simp
  clear d0 d15 d16
  go_loopw [47] (fun i wr => ∃ (k : Nat), k ≤ x.args.length ∧ i = .int .i64 k ∧ (∀ j, j < k → argB x.op x.args j = true) ∧ Below w1.heap.size w1 wr) (fun i _ => x.args.length - (intOf i).toNat)
  case atStart => exact ⟨0, by omega, rfl, fun j hj => absurd hj (by omega), HB2.out⟩
  case round =>
    obtain ⟨k, hk, rfl, hall, hbel⟩ := hrel
    have HB := Lib.hid hbel
    have HALL := Lib.hid hall
    have RX := Lib.hid (HX.out.below HB.out hs0.out)
    have hsr := Lib.hid (Nat.lt_of_lt_of_le hs0.out HB.out.size)
    clear hbel hall
    by_cases hlt : k < x.args.length
    · have HG := Lib.hid (argB_get x.op hlt)
      have HBA := Lib.hid (fun h => form_bad_arg (x := x) hlt h)
      have hcp := cnt_parts HCV.out
      have HOO := Lib.hid (opt_opt hcp.1 hlt ⟨hcp.2.1, hcp.2.2.1, fun _ => HSM.out⟩)
      clear hcp
      obtain ⟨b, p, rfl, hb, hget⟩ := HA.out.get (by intro h; simp [h] at hlt)
      obtain ⟨es, g1, g2⟩ := hget k hlt
      have gb := Nat.lt_of_lt_of_le hb (Nat.le_trans hB H0.out.size)
      have HR := Lib.hid (((g1.below H0.out (Nat.lt_of_lt_of_le hb hB))).below HB.out gb).range
      have HE := Lib.hid (((g2.below (H0.out.mono hB)).below (HB.out.mono (Nat.le_trans hB H0.out.size))).below ((belowBox wr (.cells es.toArray 34)).mono (Nat.le_trans hB (Nat.le_trans H0.out.size HB.out.size))))
      have hle := Lib.hid (show (Tryz.prog.info? 34).map (·.size) = some es.length by rw [g2.len]; exact sizeE)
      have hle2 := Lib.hid (show (Tryz.prog.info? 34).map (·.size) = some es.toArray.size by rw [List.size_toArray, g2.len]; exact sizeE)
      have h17 := Lib.hid (show 17 = es.toArray.size by rw [List.size_toArray, g2.len])
      have hone := Lib.hid (show es.toArray.all (·.oneCell') = true from Go.all_oneCell_toArray g2.one)
      obtain ⟨aa1, fa1, ac1, fc1, vs1, gh⟩ := g2.has
      have f0 := gh.op
      clear gh g1 g2 hget gb
      have HBX := Lib.hid (belowThen HB.out (belowBox wr (.cells es.toArray 34)))
      have k0 := (RX.out.then (belowBox wr (.cells es.toArray 34)) hsr.out).get0 c0
      by_cases hz : x.args[k].op = 30
      · have HZ3 := Lib.hid hz
        rw [hz] at f0
        have r0 := (box_at wr es 34).get0 f0
        clear hz
        go_wp2_with (first
          | ((with_reducible show wpList _ _ _ (⟨some 51, _, _, _, _, _⟩ :: _) _ _); refine wpList_load_mid_e rfl 34 _ rfl b (p + k * 17) rfl es _ HR.out Tryz.underlying34 rfl hle.out ?_)
          | ((with_reducible show wpList _ _ _ (⟨none, .store 34 (.tmp 4) _, _, _, _, _⟩ :: _) _ _); refine wpList_store_new rfl 34 _ _ rfl _ es.toArray rfl rfl hle2.out h17.out hone.out ?_))
        refine (optional_p _ k _).mono ?_
        rintro e3 w3 ⟨rfl, rfl⟩
        obtain ⟨q, hq⟩ : ∃ q, optP 25 k = q := ⟨_, rfl⟩
        have HQ := Lib.hid (show decide (optE x.op ≤ k) = q by rw [← HOO.out]; rw [HO.out]; exact hq)
        rw [hq]
        clear hq
        cases q
        case false =>
          have HF := Lib.hid (HBA.out (by rw [HG.out, if_pos HZ3.out, HQ.out]; rfl))
          go_wp2_with fail
          go_ret
          exact ⟨ret_bool HF.out.symm, belowThen H0.out HBX.out⟩
        go_wp2_with (refine wpList_load_mid_e rfl 34 _ rfl wr.heap.size 0 rfl es _ (box_at wr es 34).range Tryz.underlying34 rfl hle.out ?_)
        refine (absent_p x.args[k] _ B N es (Nat.le_trans hB (Nat.le_trans H0.out.size HBX.out.size)) HE.out).mono ?_
        rintro e4 w4 ⟨rfl, hb4⟩
        have HB4 := Lib.hid (belowThen HBX.out hb4)
        clear hb4
        obtain ⟨u, hu⟩ : ∃ u, absB x.args[k] = u := ⟨_, rfl⟩
        have HGV := Lib.hid (show argB x.op x.args k = u by rw [HG.out, if_pos HZ3.out, hu, HQ.out]; simp)
        rw [hu]
        clear hu
        cases u with
        | true =>
          go_wp2_with fail
          go_roundw
          case rel => exact ⟨k + 1, by omega, by go_num, fun j hj => (by
            by_cases hjk : j = k
            · rw [hjk]; exact HGV.out
            · exact HALL.out j (by omega)), HB4.out⟩
          case measure => simp [intOf]; omega
        | false =>
          have HF := Lib.hid (HBA.out HGV.out)
          go_wp2_with fail
          go_ret
          exact ⟨ret_bool HF.out.symm, belowThen H0.out HB4.out⟩
      · have HGV := Lib.hid (show argB x.op x.args k = true by rw [HG.out, if_neg hz])
        have hz' : (x.args[k].op == 30) = false := by simpa using hz
        have r0 := (box_at wr es 34).get0 f0
        clear hz
        go_wp2_with (first
          | ((with_reducible show wpList _ _ _ (⟨some 51, _, _, _, _, _⟩ :: _) _ _); refine wpList_load_mid_e rfl 34 _ rfl b (p + k * 17) rfl es _ HR.out Tryz.underlying34 rfl hle.out ?_)
          | ((with_reducible show wpList _ _ _ (⟨none, .store 34 (.tmp 4) _, _, _, _, _⟩ :: _) _ _); refine wpList_store_new rfl 34 _ _ rfl _ es.toArray rfl rfl hle2.out h17.out hone.out ?_))
        go_roundw
        case rel => exact ⟨k + 1, by omega, by go_num, fun j hj => (by
          by_cases hjk : j = k
          · rw [hjk]; exact HGV.out
          · exact HALL.out j (by omega)), HBX.out⟩
        case measure => simp [intOf]; omega
    · have HT := Lib.hid (belowThen H0.out HB.out)
      have d0 := RX.out.get0 c0
      have d1 := RX.out.get0 c1
      have d15 := RX.out.get0 c15
      have HFO := Lib.hid (form_25 HO.out HCV.out (args_all fun j hj => HALL.out j (by omega)))
      rw [HZ.out] at HFO
      have hfu := HFU.out
      have HI := Lib.hid (show idnB 25 = false by decide)
      by_cases hnm : x.name.toList = []
      all_goals
        go_wp2_with fail
        refine (named_p _ _ H30.out).mono ?_
        rintro e4 w4 ⟨rfl, rfl⟩
        rw [HI.out]
        go_wp2_with fail
        all_goals
          (go_ret
           refine ⟨ret_bool (bool_of ?_), by with_reducible exact HT.out⟩
           have hv := HFO.out
           rw [hv]
           clear hv HFO
           first | (simp [*]; done) | (simp; omega) | grind)
end Go.Proofs.YtfegnmbdgdjkgaaGreatDoor
