/- The program's check of functions (qparse.functions), given 'visit' one level down: what fnE says. -/
import Derived.Test.YtmbldgcbnkhabaaGreatDoorSet36
namespace Go.Proofs.YtmbldgcbnkhabaaGreatDoor
open Go.RowKit

theorem FB.of_grown {b : Nat} {w w' : World} (hg : w.grownBy w' (some b)) : FB b w w' :=
  ⟨hg.os, hg.tape, hg.output, hg.size, fun k hk hn => hg.block k hk (fun e => by cases e; exact hn rfl)⟩
theorem sizePAR : (Tryz.prog.info? 60).map (·.size) = some 2 := by kernel_rfl
set_option maxRecDepth 100000 in
set_option maxHeartbeats 6400000 in
theorem functions_p (m : Nat) (ih : VisX m) : FunsP m := by
  intro l a c w B N depth n pb db nb hd h0 h1 hN h4 hB hp hc hE hdb hnb hdp hnp hl hsf hA
  have IH := Lib.hid ih
  have HD := Lib.hid hd
  have HC := Lib.hid hc
  have HE0 := Lib.hid hE
  have HDB := Lib.hid hdb
  have HNB := Lib.hid hnb
  have HS := Lib.hid hsf
  have HA := Lib.hid hA
  have HDP := Lib.hid hdp
  have HNP := Lib.hid hnp
  have HPL := Lib.hid hc.lt
  clear ih hd hc hE hdb hnb hsf hA hdp hnp
  by_cases hbig : 256 < l.length
  · have HR := Lib.hid (fnE_big (m := m) (s := n) hbig)
    go_enter Tryz.func20, Tryz.ntmps20
    go_wp2_with fail
    go_ret
    exact chk_ret HR.out (FB.refl _ _) HC.out (fun _ => rfl)
  have H00 := Lib.hid (fnE_0 (m := m) (s := n) hbig)
  have hmm := @run_makeMap Tryz.prog
  go_enter Tryz.func20, Tryz.ntmps20
  go_wp2_with fail
  clear hmm
  go_simp
  go_loopw [18] (fun i wr => ∃ (y : Int) (k : Nat), k ≤ l.length ∧ i = .int .i64 k ∧ 0 ≤ y ∧ y ≤ 4096 ∧ Hid (fnE m l n = fuE m l k y) ∧ Hid (FB pb w wr) ∧ Hid (CellI wr pb y) ∧ Hid (SetAt wr 9 4 w.heap.size k (strs ((nmsF l).take k))) ∧ Hid (w.heap.size < wr.heap.size)) (fun i _ => l.length - (intOf i).toNat)
  case atStart => exact ⟨n, 0, by omega, rfl, h0, h1, H00, Lib.hid (FB.of_below (belowBox w _)), Lib.hid (HC.out.below (belowBox w _)), Lib.hid (SetAt.made w 9 4), Lib.hid (by rw [World.size_alloc]; omega)⟩
  case round =>
    obtain ⟨w1, rfl⟩ : ∃ w1, w1 = wr := ⟨wr, rfl⟩
    obtain ⟨y, k, hk, rfl, hy0, hy1, HFU, HF, HCC, HSET, HSZ⟩ := hrel
    by_cases hlt : k < l.length
    case neg =>
      obtain rfl : k = l.length := by omega
      have HR := Lib.hid (show fnE m l n = (y, 0) by rw [HFU.out, fuE_end])
      go_wp2_with fail
      go_ret
      exact chk_ret HR.out HF.out HCC.out (fun _ => rfl)
    obtain ⟨b, p, rfl, hb, hget⟩ := HA.out.get (by intro h; simp [h] at hlt)
    obtain ⟨fs, g1, g2⟩ := hget k hlt
    have HBw := Lib.hid (HF.out.below hp hB)
    have HR := Lib.hid (g1.below HBw.out hb).range
    obtain ⟨pa, pc, es, gh⟩ := g2.has
    have f0 := gh.name
    have f1 := gh.params
    have hlf := Lib.hid (show (Tryz.prog.info? 42).map (·.size) = some fs.length by rw [gh.len]; exact sizeFN)
    have hlf2 := Lib.hid (show (Tryz.prog.info? 42).map (·.size) = some fs.toArray.size by rw [List.size_toArray, gh.len]; exact sizeFN)
    have h19 := Lib.hid (show 19 = fs.toArray.size by rw [List.size_toArray, gh.len])
    have hone := Lib.hid (show fs.toArray.all (·.oneCell') = true from Go.all_oneCell_toArray gh.one)
    have hnm := Lib.hid (show (l[k]).name.size ≤ maxLen by have := gh.hn; unfold maxLen; omega)
    have hpl : (l[k]).params.length ≤ N := gh.hp
    have HP := Lib.hid gh.atPar
    have HE := Lib.hid gh.atBody
    have HBd := Lib.hid gh.body
    have FX := Lib.hid (box_at w1 fs 42)
    have HW := Lib.hid (show FB pb w (w1.alloc (.cells fs.toArray 42)) from HF.out.trans (FB.of_below (belowBox w1 _)))
    have HCW := Lib.hid (HCC.out.below (belowBox w1 (.cells fs.toArray 42)))
    have HEW := Lib.hid (HE0.out.fb HW.out h4 hp hB)
    have HSW := Lib.hid (HSET.out.later (belowBox w1 (.cells fs.toArray 42)))
    have hwr := Lib.hid (show w1.heap.size < (w1.alloc (.cells fs.toArray 42)).heap.size by rw [World.size_alloc]; omega)
    have HBS := Lib.hid (smlF_get HS.out k hlt)
    clear gh g1 g2 hget
    obtain ⟨ib, hib⟩ : ∃ v, identB (l[k]).name = v := ⟨_, rfl⟩
    have HI := Lib.hid hib
    clear hib
    go_wp2_with (first
      | (refine wpList_load_mid rfl 42 _ rfl b (p + k * 19) rfl fs _ HR.out Tryz.underlying42 rfl hlf.out ?_)
      | (refine wpList_store_new rfl 42 _ _ rfl _ fs.toArray rfl rfl hlf2.out h19.out hone.out ?_))
    refine (identP _ _ hnm.out HEW.out.kw).mono ?_
    rintro e w' ⟨rfl, rfl⟩
    rw [HI.out]
    cases ib
    case false =>
      have HZ := Lib.hid (show fnE m l n = (y, 16) by rw [HFU.out, fuE_16 hlt HI.out])
      go_wp2_with fail
      go_ret
      exact chk_ret HZ.out HW.out HCW.out (fun _ => rfl)
    by_cases h8 : 8 < (l[k]).params.length
    · have HZ := Lib.hid (show fnE m l n = (y, 10) by rw [HFU.out, fuE_10 hlt HI.out h8])
      go_wp2_with fail
      go_ret
      exact chk_ret HZ.out HW.out HCW.out (fun _ => rfl)
    have H8 := Lib.hid (show ¬ 8 < (l[k]).params.length from h8)
    have hmm := @run_makeMap Tryz.prog
    go_wp2_with fail
    clear hmm
    go_simp
    go_loopw [34] (fun i w2 => ∃ (k2 : Nat), k2 ≤ (l[k]).params.length ∧ i = .int .i64 k2 ∧ Hid (paE (l[k]).params 0 = paE (l[k]).params k2) ∧ Hid (Below (w1.alloc (.cells fs.toArray 42)).heap.size (w1.alloc (.cells fs.toArray 42)) w2) ∧ Hid (SetAt w2 9 4 (w1.heap.size + 1) k2 (strs ((nmsP (l[k]).params).take k2))) ∧ Hid ((w1.alloc (.cells fs.toArray 42)).heap.size < w2.heap.size)) (fun i _ => (l[k]).params.length - (intOf i).toNat)
    case atStart => exact ⟨0, by omega, rfl, Lib.hid rfl, Lib.hid (belowBox _ _), Lib.hid (by have h := SetAt.made (w1.alloc (.cells fs.toArray 42)) 9 4; rw [World.size_alloc] at h; exact h), Lib.hid (by simp only [World.size_alloc]; omega)⟩
    case round =>
      obtain ⟨w2, rfl⟩ : ∃ w2, w2 = wr := ⟨wr, rfl⟩
      obtain ⟨k2, hk2, rfl, HPP, HB2, HSP, HS2⟩ := hrel
      have F2 := Lib.hid (FX.out.below HB2.out hwr.out)
      by_cases hlt2 : k2 < (l[k]).params.length
      case pos =>
        obtain ⟨b2, p2, rfl, hp2, hpar⟩ := HP.out.get (by intro h; simp [h] at hlt2)
        have HBv := Lib.hid (show Below B w w2 from (HW.out.trans (FB.of_below HB2.out)).below hp hB)
        obtain ⟨ps, hps⟩ : ∃ ps, ps = ((l[k]).params[k2]).cells := ⟨_, rfl⟩
        have q0 : ps[0]? = some (.string ((l[k]).params[k2]).name) := by rw [hps]; rfl
        have hpl2 : ps.length = 2 := by rw [hps]; rfl
        have hpone := Lib.hid (show ps.toArray.all (·.oneCell') = true from Go.all_oneCell_toArray (fun u hu => by
          rw [hps] at hu
          simp only [ParD.cells, List.mem_cons, List.mem_nil_iff, or_false] at hu
          rcases hu with rfl | rfl <;> rfl))
        have HR2 := Lib.hid (show CellsAt w2 b2 (p2 + k2 * 2) ps by rw [hps]; exact (hpar k2 hlt2).2.below HBv.out hp2).range
        have hn2 := Lib.hid (show ((l[k]).params[k2]).name.size ≤ maxLen by have := (hpar k2 hlt2).1; unfold maxLen; omega)
        have hlp := Lib.hid (show (Tryz.prog.info? 60).map (·.size) = some ps.length by rw [hpl2]; exact sizePAR)
        have hlp2 := Lib.hid (show (Tryz.prog.info? 60).map (·.size) = some ps.toArray.size by rw [List.size_toArray, hpl2]; exact sizePAR)
        have h2s := Lib.hid (show 2 = ps.toArray.size by rw [List.size_toArray, hpl2])
        have PX := Lib.hid (box_at w2 ps 60)
        have HBX := Lib.hid (belowThen HB2.out (belowBox w2 (.cells ps.toArray 60)))
        have HSPX := Lib.hid (HSP.out.later (belowBox w2 (.cells ps.toArray 60)))
        have HEX := Lib.hid ((HEW.out.then HB2.out).then (belowBox w2 (.cells ps.toArray 60)))
        have HWX := Lib.hid (HW.out.trans (FB.of_below HBX.out))
        have HCX := Lib.hid (HCW.out.below HBX.out)
        have e0 := PX.out.get0 q0
        clear hpar hps
        obtain ⟨pn, hpn⟩ : ∃ s, ((l[k]).params[k2]).name = s := ⟨_, rfl⟩
        have HPN := Lib.hid hpn
        rw [hpn] at e0 hn2 q0
        obtain ⟨v2, hv2⟩ : ∃ v, identB pn = v := ⟨_, rfl⟩
        have HV2 := Lib.hid hv2
        clear hpn hv2
        go_wp2_with (first
          | (refine wpList_load_mid rfl 60 _ rfl b2 (p2 + k2 * 2) rfl ps _ HR2.out Tryz.underlying60 rfl hlp.out ?_)
          | (refine wpList_store_new rfl 60 _ _ rfl _ ps.toArray rfl rfl hlp2.out h2s.out hpone.out ?_))
        refine (identP pn _ hn2.out HEX.out.kw).mono ?_
        rintro e w' ⟨rfl, rfl⟩
        rw [HV2.out]
        cases v2
        case false =>
          have HZ := Lib.hid (show fnE m l n = (y, 16) by rw [HFU.out, fuE_par hlt HI.out H8.out (by decide) (HPP.out.trans (paE_16 hlt2 (by rw [HPN.out]; exact HV2.out)))])
          go_wp2_with fail
          go_ret
          exact chk_ret HZ.out HWX.out HCX.out (fun h => absurd h (by decide))
        obtain ⟨sb, hsb⟩ : ∃ v, decide (pn.data.toList ∈ strs ((nmsP (l[k]).params).take k2)) = v := ⟨_, rfl⟩
        have HSB := Lib.hid hsb
        have HID := Lib.hid (show identB ((l[k]).params[k2]).name = true by rw [HPN.out]; exact HV2.out)
        clear hsb
        cases sb
        case true =>
          have HZ := Lib.hid (show fnE m l n = (y, 8) by rw [HFU.out, fuE_par hlt HI.out H8.out (by decide) (HPP.out.trans (paE_any8 hlt2 HID.out (by rw [HPN.out]; exact HSB.out)))])
          go_wp2_with (at_lookup; refine wpList_look_set rfl _ _ 63 rfl Tryz.underlying9 Tryz.underlying4 Tryz.underlying63 (zeroBool _) rfl HSPX.out pn rfl hn2.out true HSB.out ?_)
          go_ret
          exact chk_ret HZ.out HWX.out HCX.out (fun h => absurd h (by decide))
        have HPN2 := Lib.hid (HPP.out.trans (paE_anyN hlt2 HID.out (by rw [HPN.out]; exact HSB.out)))
        have HSN := Lib.hid (show strs ((nmsP (l[k]).params).take (k2 + 1)) = strs ((nmsP (l[k]).params).take k2) ++ [pn.data.toList] by
          rw [strs_next (by rw [nmsP_len]; exact hlt2), nmsP_get hlt2, HPN.out])
        go_wp2_with (first
          | (at_lookup; refine wpList_look_set rfl _ _ 63 rfl Tryz.underlying9 Tryz.underlying4 Tryz.underlying63 (zeroBool _) rfl HSPX.out pn rfl hn2.out false HSB.out ?_)
          | (at_mapUpdate; refine wpList_put_set rfl _ _ _ 63 rfl Tryz.underlying9 Tryz.underlying4 Tryz.underlying63 rfl HSPX.out (by unfold maxLen; omega) pn rfl rfl hn2.out ?_))
        intro w3 hset hgrow
        have HS3 := Lib.hid hset
        have HB3 := Lib.hid (show Below (w1.alloc (.cells fs.toArray 42)).heap.size (w1.alloc (.cells fs.toArray 42)) w3 from HBX.out.grown hgrow HBX.out.size (fun q hq => by cases hq; rw [World.size_alloc]; omega))
        have hs3 := Lib.hid (show (w1.alloc (.cells fs.toArray 42)).heap.size < w3.heap.size from Nat.lt_of_lt_of_le HS2.out (Nat.le_trans (by rw [World.size_alloc]; omega) hgrow.size))
        clear hset hgrow e0
        go_wp2
        go_roundw
        case rel => exact ⟨k2 + 1, by omega, by go_num, HPN2, HB3, Lib.hid (by rw [HSN.out]; exact HS3.out), hs3⟩
        case measure => simp [intOf]; omega
      case neg =>
        have HP0 := Lib.hid (show paE (l[k]).params 0 = 0 by rw [HPP.out, show k2 = (l[k]).params.length by omega, paE_end])
        have HSS := Lib.hid (HSW.out.later HB2.out)
        have HW2 := Lib.hid (HW.out.trans (FB.of_below HB2.out))
        have HC2 := Lib.hid (HCW.out.below HB2.out)
        have e0 := F2.out.get0 f0
        obtain ⟨fn, hfn⟩ : ∃ s, (l[k]).name = s := ⟨_, rfl⟩
        have HFN := Lib.hid hfn
        rw [hfn] at e0 hnm
        obtain ⟨sb, hsb⟩ : ∃ v, decide (fn.data.toList ∈ strs ((nmsF l).take k)) = v := ⟨_, rfl⟩
        have HSB := Lib.hid hsb
        clear hsb hfn
        cases sb
        case true =>
          have HZ := Lib.hid (show fnE m l n = (y, 8) by rw [HFU.out, fuE_any8 hlt HI.out H8.out HP0.out (by rw [HFN.out]; exact HSB.out)])
          go_wp2_with (at_lookup; refine wpList_look_set rfl _ _ 63 rfl Tryz.underlying9 Tryz.underlying4 Tryz.underlying63 (zeroBool _) rfl HSS.out fn rfl hnm.out true HSB.out ?_)
          go_ret
          exact chk_ret HZ.out HW2.out HC2.out (fun h => absurd h (by decide))
        have HGO := Lib.hid (HFU.out.trans (fuE_anyG hlt HI.out H8.out HP0.out (by rw [HFN.out]; exact HSB.out)))
        have HSN := Lib.hid (show strs ((nmsF l).take (k + 1)) = strs ((nmsF l).take k) ++ [fn.data.toList] by
          rw [strs_next (by rw [nmsF_len]; exact hlt), nmsF_get hlt, HFN.out])
        have FE := Lib.hid (F2.out.drop2 HBd.out)
        have hle := Lib.hid (show (Tryz.prog.info? 34).map (·.size) = some es.length by rw [HE.out.len]; exact sizeE)
        have HRG := Lib.hid (lkE_range m (l[k]).body y hy0 hy1)
        obtain ⟨y6, z6, h6⟩ : ∃ a b, lkE m (l[k]).body y = (a, b) := ⟨_, _, rfl⟩
        rw [h6] at HGO HRG
        have H6 := Lib.hid h6
        clear h6
        have hw2l := Lib.hid (show w1.heap.size < w2.heap.size from Nat.lt_of_lt_of_le hwr.out HB2.out.size)
        go_wp2_with (first
          | (at_lookup; refine wpList_look_set rfl _ _ 63 rfl Tryz.underlying9 Tryz.underlying4 Tryz.underlying63 (zeroBool _) rfl HSS.out fn rfl hnm.out false HSB.out ?_)
          | (at_mapUpdate; refine wpList_put_set rfl _ _ _ 63 rfl Tryz.underlying9 Tryz.underlying4 Tryz.underlying63 rfl HSS.out (by unfold maxLen; omega) fn rfl rfl hnm.out ?_))
        intro w3 hset hgrow
        have HS3 := Lib.hid hset
        have HF3 := Lib.hid (HW2.out.grown hgrow (Nat.le_refl _))
        have HC3 := Lib.hid (HC2.out.grown hgrow (Nat.ne_of_lt HPL.out))
        have HR3 := Lib.hid (show CellsAt w3 w1.heap.size 2 es from (FB.of_grown hgrow).cells FE.out hw2l.out (Nat.ne_of_gt HSZ.out)).range
        have hs3 := Lib.hid (Nat.lt_of_lt_of_le HSZ.out (Nat.le_trans (Nat.le_of_lt hw2l.out) hgrow.size))
        clear hset hgrow e0
        go_wp2_with (refine wpList_load_mid rfl 34 _ rfl w1.heap.size 2 rfl es _ HR3.out Tryz.underlying34 rfl hle.out ?_)
        have hb3 : Below B w w3 := HF3.out.below hp hB
        refine (body_p m IH.out (l[k]).body w3 B N es depth y pb db nb HD.out hy0 hy1 hN h4 (Nat.le_trans hB HF3.out.size) hp HC3.out (HE0.out.fb HF3.out h4 hp hB) ((HF3.out.cell (cell_lt HDB.out) HDP.out).trans HDB.out) ((HF3.out.cell (cell_lt HNB.out) HNP.out).trans HNB.out) HBS.out (HE.out.below hb3)).mono ?_
        clear hb3
        rintro e6 w6 ⟨rfl, hf6, u6, hu6, hz6⟩
        rw [H6.out] at hz6 ⊢
        have HF6 := Lib.hid (HF3.out.trans hf6)
        have HU6 := Lib.hid hu6
        have HZ6 := Lib.hid hz6
        have HS6 := Lib.hid (HS3.out.fb hf6 (Nat.ne_of_gt HPL.out))
        have hs6 := Lib.hid (Nat.lt_of_lt_of_le hs3.out hf6.size)
        clear hf6 hu6 hz6
        by_cases hz : z6 = 0
        · subst hz
          have HZ := Lib.hid (show fnE m l n = fuE m l (k + 1) y6 by rw [HGO.out, if_neg (by simp)])
          have HU7 := Lib.hid (show CellI w6 pb y6 by have := HU6.out; rwa [HZ6.out rfl] at this)
          go_wp2_with fail
          go_roundw
          case rel => exact ⟨y6, k + 1, by omega, by go_num, HRG.out.1, HRG.out.2, HZ, HF6, HU7, Lib.hid (by rw [HSN.out]; exact HS6.out), hs6⟩
          case measure => simp [intOf]; omega
        · have HZ := Lib.hid (show fnE m l n = (y6, z6) by rw [HGO.out, if_pos hz])
          have hz1 : (z6 != 0) = true := by simpa using hz
          have hz2 : (z6 == 0) = false := by simpa using hz
          go_wp2_with fail
          go_ret
          exact chk_ret HZ.out HF6.out HU6.out HZ6.out
end Go.Proofs.YtmbldgcbnkhabaaGreatDoor
