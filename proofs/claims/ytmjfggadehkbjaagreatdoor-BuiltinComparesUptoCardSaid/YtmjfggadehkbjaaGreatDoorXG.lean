/- Comparison of times: moment.Cmp. -/
import Derived.Test.YtmjfggadehkbjaaGreatDoorXF
import Derived.Deep.RegionHeld3
namespace Go.Proofs.YtmjfggadehkbjaaGreatDoor
open Go.RowKit

def timeL (t : TimeD) : List Value := [.int .i64 t.kind, .int .i64 t.day, .int .i64 t.nano, .int .i64 t.offset]
theorem timeB_eq {a b : TimeD} (h : timeB a b = true) : timC a b = 0 := by
  unfold timeB at h
  simp only [Bool.and_eq_true, beq_iff_eq] at h
  obtain ⟨h1, h2, h3, h4⟩ := h
  have : a = b := by cases a; cases b; simp_all
  rw [this, timC_self]
set_option maxRecDepth 100000 in
set_option maxHeartbeats 3200000 in
theorem tcmp_p (a b : TimeD) (w : World) (ha : vtimeB a = true) (hb : vtimeB b = true) :
    Calls Tryz.prog 91 #[.agg #[.int .i64 a.kind, .int .i64 a.day, .int .i64 a.nano, .int .i64 a.offset], .agg #[.int .i64 b.kind, .int .i64 b.day, .int .i64 b.nano, .int .i64 b.offset]] w (CmpE (timC a b) w) := by
  have HVA := Lib.hid ha
  have HVB := Lib.hid hb
  clear ha hb
  obtain ⟨r, hr⟩ : ∃ r, r = timC a b := ⟨_, rfl⟩
  rw [← hr]
  have E1 := eqTIME a b
  have E2 := guardTIM
  obtain ⟨w0, hw0⟩ : ∃ w0, w0 = (w.alloc (.cells #[.int .i64 a.kind, .int .i64 a.day, .int .i64 a.nano, .int .i64 a.offset] 25)).alloc (.cells #[.int .i64 b.kind, .int .i64 b.day, .int .i64 b.nano, .int .i64 b.offset] 25) := ⟨_, rfl⟩
  have HW0 := Lib.hid hw0
  have HB := Lib.hid (show Below w.heap.size w w0 by rw [hw0]; exact belowThen (belowBox w _) (belowBox _ _))
  have RA := Lib.hid (show RowT 25 w0 w.heap.size [.int .i64 a.kind, .int .i64 a.day, .int .i64 a.nano, .int .i64 a.offset] by rw [hw0]; exact (RowT.new w 25 _).alloc _)
  have RB := Lib.hid (show RowT 25 w0 (w.heap.size + 1) [.int .i64 b.kind, .int .i64 b.day, .int .i64 b.nano, .int .i64 b.offset] by
    rw [hw0]
    have := RowT.new (w.alloc (.cells #[.int .i64 a.kind, .int .i64 a.day, .int .i64 a.nano, .int .i64 a.offset] 25)) 25 [.int .i64 b.kind, .int .i64 b.day, .int .i64 b.nano, .int .i64 b.offset]
    rw [World.size_alloc] at this
    exact this)
  clear hw0
  cases ht : timeB a b with
  | true =>
    have HQ := Lib.hid (show r = 0 by rw [hr]; exact timeB_eq ht)
    rw [ht] at E1
    clear hr ht
    go_enter Tryz.func91, Tryz.ntmps91
    go_wp2_with fail
    go_ret
    exact ⟨by rw [HQ.out]; rfl, by rw [← HW0.out]; exact HB.out⟩
  | false =>
    rw [ht] at E1
    clear ht
    obtain ⟨s, hs⟩ : ∃ s, s = sgn a.kind b.kind := ⟨_, rfl⟩
    have HS := Lib.hid hs
    clear hs
    by_cases h3 : s = 0
    · obtain ⟨mc, hmc⟩ : ∃ mc, mc = momC a b := ⟨_, rfl⟩
      have HMC := Lib.hid hmc
      clear hmc
      have h5 : (s != 0) = false := by simp [h3]
      by_cases h6 : mc = 0
      · have HQ := Lib.hid (show r = sgn a.offset b.offset by rw [hr]; unfold timC; rw [← HS.out, if_pos h3, ← HMC.out, if_pos h6])
        have h7 : (mc != 0) = false := by simp [h6]
        clear hr h3 h6
        go_enter Tryz.func91, Tryz.ntmps91
        go_wp2_with (go_at_call 88; refine (cmp_i _ _ _).mono ?_; rintro e w1 ⟨rfl, rfl⟩; rw [← HS.out])
        rw [← HW0.out]
        refine wp_region_held_drew (S := fun u => Below w0.heap.size w0 u) (by kernel_rfl) (drewU w0) (fun hHeld => ?_)
        refine' wpAnyH_takeU (i := 0) (v := _) _ rfl rfl (by kernel_rfl) (by kernel_rfl) (by kernel_rfl) (fun _ _ _ h => h) (yieldsIf_load_mid (by kernel_rfl) 25 _ rfl w.heap.size 0 rfl [.int .i64 a.kind, .int .i64 a.day, .int .i64 a.nano, .int .i64 a.offset] _ (fun u hu => (RA.out.then hu).range) Tryz.underlying25 rfl (by kernel_rfl)) hHeld ?_
        simp only [List.set_cons_succ, List.set_cons_zero]
        refine' wpAnyH_takeU (i := 2) (v := _) _ rfl rfl (by kernel_rfl) (by kernel_rfl) (by kernel_rfl) (fun _ _ _ h => h) (yieldsIf_load_mid (by kernel_rfl) 25 _ rfl (w.heap.size + 1) 0 rfl [.int .i64 b.kind, .int .i64 b.day, .int .i64 b.nano, .int .i64 b.offset] _ (fun u hu => (RB.out.then hu).range) Tryz.underlying25 rfl (by kernel_rfl)) hHeld ?_
        simp only [List.set_cons_succ, List.set_cons_zero]
        refine wpAnyH_ready (rs := [1]) (by kernel_rfl) (by simp) ?_
        refine AllReadyH.cons rfl (fun K hK => ?_) AllReadyH.nil
        rw [if_pos (by rfl)]
        go_simp
        refine (moment_p a _ HVA.out).mono ?_
        rintro e u1 ⟨rfl, hbC⟩
        refine hK.out _ _ (hHeld.trans (hbC.mono hHeld.size)) (fun hHeld1 => ?_)
        clear hK K hbC hHeld
        have hHeld := hHeld1
        clear hHeld1
        refine wpAnyH_ready (rs := [3]) (by kernel_rfl) (by simp) ?_
        refine AllReadyH.cons rfl (fun K hK => ?_) AllReadyH.nil
        rw [if_pos (by rfl)]
        go_simp
        refine (moment_p b _ HVB.out).mono ?_
        rintro e u2 ⟨rfl, hbC⟩
        refine hK.out _ _ (hHeld.trans (hbC.mono hHeld.size)) (fun hHeld1 => ?_)
        clear hK K hbC hHeld
        have hHeld := hHeld1
        clear hHeld1
        refine wpAnyH_ready (rs := [4]) (by kernel_rfl) (by simp) ?_
        refine AllReadyH.cons rfl (fun K hK => ?_) AllReadyH.nil
        rw [if_pos (by rfl)]
        go_simp
        refine (mcmp_p _ _ _ _ _).mono ?_
        rintro e u3 ⟨rfl, hbC⟩
        rw [show (if sgn (dayT a) (dayT b) = 0 then sgn (nanT a) (nanT b) else sgn (dayT a) (dayT b)) = mc from HMC.out.symm]
        refine hK.out _ _ (hHeld.trans (hbC.mono hHeld.size)) (fun hHeld1 => ?_)
        clear hK K hbC hHeld
        have hHeld := hHeld1
        clear hHeld1
        refine wpAnyH_ready (rs := [5]) (by kernel_rfl) (by simp) ?_
        refine AllReadyH.cons rfl (fun K hK => ?_) AllReadyH.nil
        rw [if_pos (by rfl)]
        go_simp
        refine hK.out _ _ hHeld (fun hHeldx => ?_)
        clear hK K hHeldx
        refine wpAnyH_done (by kernel_rfl) ?_ _
        have HW := Lib.hid hHeld
        clear hHeld
        have c3 := (RA.out.then HW.out).cell (j := 3) (v := .int .i64 a.offset) rfl
        have d3 := (RB.out.then HW.out).cell (j := 3) (v := .int .i64 b.offset) rfl
        go_wp2_with (go_at_call 88; refine (cmp_i _ _ _).mono ?_; rintro e w1 ⟨rfl, rfl⟩)
        go_ret
        exact ⟨by rw [HQ.out]; rfl, HB.out.trans (HW.out.mono HB.out.size)⟩
      · have HQ := Lib.hid (show r = mc by rw [hr]; unfold timC; rw [← HS.out, if_pos h3, ← HMC.out, if_neg h6])
        have h7 : (mc != 0) = true := by simp [h6]
        clear hr h3 h6
        go_enter Tryz.func91, Tryz.ntmps91
        go_wp2_with (go_at_call 88; refine (cmp_i _ _ _).mono ?_; rintro e w1 ⟨rfl, rfl⟩; rw [← HS.out])
        rw [← HW0.out]
        refine wp_region_held_drew (S := fun u => Below w0.heap.size w0 u) (by kernel_rfl) (drewU w0) (fun hHeld => ?_)
        refine' wpAnyH_takeU (i := 0) (v := _) _ rfl rfl (by kernel_rfl) (by kernel_rfl) (by kernel_rfl) (fun _ _ _ h => h) (yieldsIf_load_mid (by kernel_rfl) 25 _ rfl w.heap.size 0 rfl [.int .i64 a.kind, .int .i64 a.day, .int .i64 a.nano, .int .i64 a.offset] _ (fun u hu => (RA.out.then hu).range) Tryz.underlying25 rfl (by kernel_rfl)) hHeld ?_
        simp only [List.set_cons_succ, List.set_cons_zero]
        refine' wpAnyH_takeU (i := 2) (v := _) _ rfl rfl (by kernel_rfl) (by kernel_rfl) (by kernel_rfl) (fun _ _ _ h => h) (yieldsIf_load_mid (by kernel_rfl) 25 _ rfl (w.heap.size + 1) 0 rfl [.int .i64 b.kind, .int .i64 b.day, .int .i64 b.nano, .int .i64 b.offset] _ (fun u hu => (RB.out.then hu).range) Tryz.underlying25 rfl (by kernel_rfl)) hHeld ?_
        simp only [List.set_cons_succ, List.set_cons_zero]
        refine wpAnyH_ready (rs := [1]) (by kernel_rfl) (by simp) ?_
        refine AllReadyH.cons rfl (fun K hK => ?_) AllReadyH.nil
        rw [if_pos (by rfl)]
        go_simp
        refine (moment_p a _ HVA.out).mono ?_
        rintro e u1 ⟨rfl, hbC⟩
        refine hK.out _ _ (hHeld.trans (hbC.mono hHeld.size)) (fun hHeld1 => ?_)
        clear hK K hbC hHeld
        have hHeld := hHeld1
        clear hHeld1
        refine wpAnyH_ready (rs := [3]) (by kernel_rfl) (by simp) ?_
        refine AllReadyH.cons rfl (fun K hK => ?_) AllReadyH.nil
        rw [if_pos (by rfl)]
        go_simp
        refine (moment_p b _ HVB.out).mono ?_
        rintro e u2 ⟨rfl, hbC⟩
        refine hK.out _ _ (hHeld.trans (hbC.mono hHeld.size)) (fun hHeld1 => ?_)
        clear hK K hbC hHeld
        have hHeld := hHeld1
        clear hHeld1
        refine wpAnyH_ready (rs := [4]) (by kernel_rfl) (by simp) ?_
        refine AllReadyH.cons rfl (fun K hK => ?_) AllReadyH.nil
        rw [if_pos (by rfl)]
        go_simp
        refine (mcmp_p _ _ _ _ _).mono ?_
        rintro e u3 ⟨rfl, hbC⟩
        rw [show (if sgn (dayT a) (dayT b) = 0 then sgn (nanT a) (nanT b) else sgn (dayT a) (dayT b)) = mc from HMC.out.symm]
        refine hK.out _ _ (hHeld.trans (hbC.mono hHeld.size)) (fun hHeld1 => ?_)
        clear hK K hbC hHeld
        have hHeld := hHeld1
        clear hHeld1
        refine wpAnyH_ready (rs := [5]) (by kernel_rfl) (by simp) ?_
        refine AllReadyH.cons rfl (fun K hK => ?_) AllReadyH.nil
        rw [if_pos (by rfl)]
        go_simp
        refine hK.out _ _ hHeld (fun hHeldx => ?_)
        clear hK K hHeldx
        refine wpAnyH_done (by kernel_rfl) ?_ _
        have HW := Lib.hid hHeld
        clear hHeld
        go_wp2_with fail
        go_ret
        exact ⟨by rw [HQ.out]; rfl, HB.out.trans (HW.out.mono HB.out.size)⟩
    · have HQ := Lib.hid (show r = s by rw [hr]; unfold timC; rw [← HS.out, if_neg h3])
      have h5 : (s != 0) = true := by simp [h3]
      clear hr h3
      go_enter Tryz.func91, Tryz.ntmps91
      go_wp2_with (go_at_call 88; refine (cmp_i _ _ _).mono ?_; rintro e w1 ⟨rfl, rfl⟩; rw [← HS.out])
      go_ret
      exact ⟨by rw [HQ.out]; rfl, by rw [← HW0.out]; exact HB.out⟩
end Go.Proofs.YtmjfggadehkbjaaGreatDoor

/- Comparison of times: datakitref05.Cmp. -/
namespace Go.Proofs.YtmjfggadehkbjaaGreatDoor
open Go.RowKit

set_option maxRecDepth 100000 in
set_option maxHeartbeats 3200000 in
theorem tcmp_r (a b : TimeD) (w : World) (ha : vtimeB a = true) (hb : vtimeB b = true) :
    Calls Tryz.prog 44 #[.agg #[.int .i64 a.kind, .int .i64 a.day, .int .i64 a.nano, .int .i64 a.offset], .agg #[.int .i64 b.kind, .int .i64 b.day, .int .i64 b.nano, .int .i64 b.offset]] w (CmpE (timC a b) w) := by
  have HVA := Lib.hid ha
  have HVB := Lib.hid hb
  clear ha hb
  obtain ⟨r, hr⟩ : ∃ r, r = timC a b := ⟨_, rfl⟩
  rw [← hr]
  have HRR := Lib.hid hr
  clear hr
  obtain ⟨s1, hs1⟩ : ∃ s, s = sgn a.kind b.kind := ⟨_, rfl⟩
  obtain ⟨s2, hs2⟩ : ∃ s, s = sgn (dayT a) (dayT b) := ⟨_, rfl⟩
  obtain ⟨s3, hs3⟩ : ∃ s, s = sgn (nanT a) (nanT b) := ⟨_, rfl⟩
  obtain ⟨s4, hs4⟩ : ∃ s, s = sgn a.offset b.offset := ⟨_, rfl⟩
  have H1 := Lib.hid hs1
  have H2 := Lib.hid hs2
  have H3 := Lib.hid hs3
  have H4 := Lib.hid hs4
  clear hs1 hs2 hs3 hs4
  have HB := Lib.hid (show Below w.heap.size w ((w.alloc (.cells #[.int .i64 a.kind, .int .i64 a.day, .int .i64 a.nano, .int .i64 a.offset] 25)).alloc (.cells #[.int .i64 b.kind, .int .i64 b.day, .int .i64 b.nano, .int .i64 b.offset] 25)) from belowThen (belowBox w _) (belowBox _ _))
  have RA0 := Lib.hid (show RowT 25 ((w.alloc (.cells #[.int .i64 a.kind, .int .i64 a.day, .int .i64 a.nano, .int .i64 a.offset] 25)).alloc (.cells #[.int .i64 b.kind, .int .i64 b.day, .int .i64 b.nano, .int .i64 b.offset] 25)) w.heap.size [.int .i64 a.kind, .int .i64 a.day, .int .i64 a.nano, .int .i64 a.offset] from (RowT.new w 25 _).alloc _)
  have RB0 := Lib.hid (show RowT 25 ((w.alloc (.cells #[.int .i64 a.kind, .int .i64 a.day, .int .i64 a.nano, .int .i64 a.offset] 25)).alloc (.cells #[.int .i64 b.kind, .int .i64 b.day, .int .i64 b.nano, .int .i64 b.offset] 25)) (w.heap.size + 1) [.int .i64 b.kind, .int .i64 b.day, .int .i64 b.nano, .int .i64 b.offset] from by
    have := RowT.new (w.alloc (.cells #[.int .i64 a.kind, .int .i64 a.day, .int .i64 a.nano, .int .i64 a.offset] 25)) 25 [.int .i64 b.kind, .int .i64 b.day, .int .i64 b.nano, .int .i64 b.offset]
    rw [World.size_alloc] at this
    exact this)
  go_enter Tryz.func44, Tryz.ntmps44
  go_wp2_with fail
  refine (moment5_r a _ HVA.out).mono ?_
  rintro e w1 ⟨rfl, hb⟩
  have HB1 := Lib.hid (belowThen HB.out hb)
  have RA1 := Lib.hid (RA0.out.then hb)
  have RB1 := Lib.hid (RB0.out.then hb)
  have d0 := RB1.out.cell (j := 0) (v := .int .i64 b.kind) rfl
  have d1 := RB1.out.cell (j := 1) (v := .int .i64 b.day) rfl
  have d2 := RB1.out.cell (j := 2) (v := .int .i64 b.nano) rfl
  have d3 := RB1.out.cell (j := 3) (v := .int .i64 b.offset) rfl
  clear hb RA0 RB0
  go_wp2_with fail
  refine (moment5_r b _ HVB.out).mono ?_
  rintro e W ⟨rfl, hb⟩
  have HB2 := Lib.hid (belowThen HB1.out hb)
  have RA := Lib.hid (RA1.out.then hb)
  have RB := Lib.hid (RB1.out.then hb)
  clear hb RA1 RB1 d0 d1 d2 d3
  go_wp2_with fail
  refine wp_region_held_drew (S := fun u => Below W.heap.size W u) (by kernel_rfl) (drewU W) (fun hHeld => ?_)
  refine' wpAnyH_takeU (i := 0) (v := .pointer (some ⟨w.heap.size, 0, none⟩)) _ rfl rfl (by kernel_rfl) (by kernel_rfl) (by kernel_rfl) (fun _ _ _ h => h) (.inl ⟨by rfl, fun u hu => (by go_simp)⟩) hHeld ?_
  simp only [List.set_cons_succ, List.set_cons_zero]
  refine' wpAnyH_takeU (i := 1) (v := .int .i64 a.kind) _ rfl rfl (by kernel_rfl) (by kernel_rfl) (by kernel_rfl) (fun _ _ _ h => h) (.inl ⟨by rfl, fun u hu => (by have hc := (RA.out.then hu).cell (j := 0) (v := .int .i64 a.kind) rfl; go_simp)⟩) hHeld ?_
  simp only [List.set_cons_succ, List.set_cons_zero]
  refine' wpAnyH_takeU (i := 2) (v := .pointer (some ⟨w.heap.size + 1, 0, none⟩)) _ rfl rfl (by kernel_rfl) (by kernel_rfl) (by kernel_rfl) (fun _ _ _ h => h) (.inl ⟨by rfl, fun u hu => (by go_simp)⟩) hHeld ?_
  simp only [List.set_cons_succ, List.set_cons_zero]
  refine' wpAnyH_takeU (i := 3) (v := .int .i64 b.kind) _ rfl rfl (by kernel_rfl) (by kernel_rfl) (by kernel_rfl) (fun _ _ _ h => h) (.inl ⟨by rfl, fun u hu => (by have hc := (RB.out.then hu).cell (j := 0) (v := .int .i64 b.kind) rfl; go_simp)⟩) hHeld ?_
  simp only [List.set_cons_succ, List.set_cons_zero]
  refine' wpAnyH_takeU (i := 5) (v := .int .i64 (dayT a)) _ rfl rfl (by kernel_rfl) (by kernel_rfl) (by kernel_rfl) (fun _ _ _ h => h) (.inl ⟨by rfl, fun u hu => (by go_simp)⟩) hHeld ?_
  simp only [List.set_cons_succ, List.set_cons_zero]
  refine' wpAnyH_takeU (i := 6) (v := .int .i64 (dayT b)) _ rfl rfl (by kernel_rfl) (by kernel_rfl) (by kernel_rfl) (fun _ _ _ h => h) (.inl ⟨by rfl, fun u hu => (by go_simp)⟩) hHeld ?_
  simp only [List.set_cons_succ, List.set_cons_zero]
  refine' wpAnyH_takeU (i := 8) (v := .int .i64 (nanT a)) _ rfl rfl (by kernel_rfl) (by kernel_rfl) (by kernel_rfl) (fun _ _ _ h => h) (.inl ⟨by rfl, fun u hu => (by go_simp)⟩) hHeld ?_
  simp only [List.set_cons_succ, List.set_cons_zero]
  refine' wpAnyH_takeU (i := 9) (v := .int .i64 (nanT b)) _ rfl rfl (by kernel_rfl) (by kernel_rfl) (by kernel_rfl) (fun _ _ _ h => h) (.inl ⟨by rfl, fun u hu => (by go_simp)⟩) hHeld ?_
  simp only [List.set_cons_succ, List.set_cons_zero]
  refine' wpAnyH_takeU (i := 11) (v := .pointer (some ⟨w.heap.size, 3, none⟩)) _ rfl rfl (by kernel_rfl) (by kernel_rfl) (by kernel_rfl) (fun _ _ _ h => h) (.inl ⟨by rfl, fun u hu => (by go_simp)⟩) hHeld ?_
  simp only [List.set_cons_succ, List.set_cons_zero]
  refine' wpAnyH_takeU (i := 12) (v := .int .i64 a.offset) _ rfl rfl (by kernel_rfl) (by kernel_rfl) (by kernel_rfl) (fun _ _ _ h => h) (.inl ⟨by rfl, fun u hu => (by have hc := (RA.out.then hu).cell (j := 3) (v := .int .i64 a.offset) rfl; go_simp)⟩) hHeld ?_
  simp only [List.set_cons_succ, List.set_cons_zero]
  refine' wpAnyH_takeU (i := 13) (v := .pointer (some ⟨w.heap.size + 1, 3, none⟩)) _ rfl rfl (by kernel_rfl) (by kernel_rfl) (by kernel_rfl) (fun _ _ _ h => h) (.inl ⟨by rfl, fun u hu => (by go_simp)⟩) hHeld ?_
  simp only [List.set_cons_succ, List.set_cons_zero]
  refine' wpAnyH_takeU (i := 14) (v := .int .i64 b.offset) _ rfl rfl (by kernel_rfl) (by kernel_rfl) (by kernel_rfl) (fun _ _ _ h => h) (.inl ⟨by rfl, fun u hu => (by have hc := (RB.out.then hu).cell (j := 3) (v := .int .i64 b.offset) rfl; go_simp)⟩) hHeld ?_
  simp only [List.set_cons_succ, List.set_cons_zero]
  refine' wpAnyH_takeU (i := 18) (v := .int .i64 0) _ rfl rfl (by kernel_rfl) (by kernel_rfl) (by kernel_rfl) (fun _ _ _ h => h) (.inl ⟨by rfl, fun u hu => (by go_simp)⟩) hHeld ?_
  simp only [List.set_cons_succ, List.set_cons_zero]
  refine wpAnyH_ready (rs := [4]) (by kernel_rfl) (by simp) ?_
  refine AllReadyH.cons rfl (fun K hK => ?_) AllReadyH.nil
  rw [if_pos (by rfl)]
  go_simp
  refine (sign5_r _ _ _).mono ?_
  rintro e u1 ⟨rfl, rfl⟩
  rw [← H1.out]
  refine hK.out _ _ hHeld (fun hHeldx => ?_)
  clear hK K hHeldx
  refine wpAnyH_ready (rs := [7]) (by kernel_rfl) (by simp) ?_
  refine AllReadyH.cons rfl (fun K hK => ?_) AllReadyH.nil
  rw [if_pos (by rfl)]
  go_simp
  refine (sign5_r _ _ _).mono ?_
  rintro e u1 ⟨rfl, rfl⟩
  rw [← H2.out]
  refine hK.out _ _ hHeld (fun hHeldx => ?_)
  clear hK K hHeldx
  refine wpAnyH_ready (rs := [10]) (by kernel_rfl) (by simp) ?_
  refine AllReadyH.cons rfl (fun K hK => ?_) AllReadyH.nil
  rw [if_pos (by rfl)]
  go_simp
  refine (sign5_r _ _ _).mono ?_
  rintro e u1 ⟨rfl, rfl⟩
  rw [← H3.out]
  refine hK.out _ _ hHeld (fun hHeldx => ?_)
  clear hK K hHeldx
  refine wpAnyH_ready (rs := [15]) (by kernel_rfl) (by simp) ?_
  refine AllReadyH.cons rfl (fun K hK => ?_) AllReadyH.nil
  rw [if_pos (by rfl)]
  go_simp
  refine (sign5_r _ _ _).mono ?_
  rintro e u1 ⟨rfl, rfl⟩
  rw [← H4.out]
  refine hK.out _ _ hHeld (fun hHeldx => ?_)
  clear hK K hHeldx
  refine wpAnyH_ready (rs := [16]) (by kernel_rfl) (by simp) ?_
  refine AllReadyH.cons rfl (fun K hK => ?_) AllReadyH.nil
  rw [if_pos (by rfl)]
  go_simp
  refine hK.out _ _ (hHeld.alloc hHeld.size _) (fun hHeldy => ?_)
  clear hK K hHeld
  have hHeld := hHeldy
  clear hHeldy
  refine' wpAnyH_takeU (i := 17) (v := .int .i64 4) _ rfl rfl (by kernel_rfl) (by kernel_rfl) (by kernel_rfl) (fun _ _ _ h => h) (.inl ⟨by rfl, fun u hu => (by go_simp)⟩) hHeld ?_
  simp only [List.set_cons_succ, List.set_cons_zero]
  refine wpAnyH_done (by kernel_rfl) ?_ _
  obtain ⟨WX, hWX⟩ : ∃ WX, WX = (W.alloc (.cells #[.int .i64 s1, .int .i64 s2, .int .i64 s3, .int .i64 s4] 3)).drew := ⟨_, rfl⟩
  rw [← hWX] at hHeld ⊢
  obtain ⟨S, hS⟩ : ∃ S : Nat → Int, S = fun j => [s1, s2, s3, s4].getD j 0 := ⟨_, rfl⟩
  obtain ⟨hp, hhp⟩ : ∃ hp, hp = W.heap.size := ⟨_, rfl⟩
  have HC := Lib.hid (show ∀ k, k < 4 → WX.cell? ⟨hp, k, none⟩ = some (.int .i64 (S k)) from fun k hk => by
    rw [hWX, hS, hhp]
    have h5 := (RowT.new W 3 [.int .i64 s1, .int .i64 s2, .int .i64 s3, .int .i64 s4]).drew
    match k, hk with
    | 0, _ => exact h5.cell rfl
    | 1, _ => exact h5.cell rfl
    | 2, _ => exact h5.cell rfl
    | 3, _ => exact h5.cell rfl)
  have HRES := Lib.hid (show (∀ k, k < 4 → (∀ j, j < k → S j = 0) → S k ≠ 0 → r = S k) ∧ ((∀ j, j < 4 → S j = 0) → r = 0) by
    have hr := HRR.out
    unfold timC momC at hr
    rw [← H1.out, ← H2.out, ← H3.out, ← H4.out] at hr
    rw [hS]
    refine ⟨fun k hk h0 hn => ?_, fun h0 => ?_⟩
    · match k, hk with
      | 0, _ => simp at hn; rw [hr, if_neg hn]; rfl
      | 1, _ => have := h0 0 (by omega); simp at this hn; rw [hr, if_pos this, if_neg hn, if_neg hn]; rfl
      | 2, _ => have h1 := h0 0 (by omega); have h2 := h0 1 (by omega); simp at h1 h2 hn; rw [hr, if_pos h1, if_pos h2, if_neg hn]; rfl
      | 3, _ => have h1 := h0 0 (by omega); have h2 := h0 1 (by omega); have h3 := h0 2 (by omega); simp at h1 h2 h3 hn; rw [hr, if_pos h1, if_pos h2, if_pos h3]; rfl
    · have h1 := h0 0 (by omega); have h2 := h0 1 (by omega); have h3 := h0 2 (by omega); have h4 := h0 3 (by omega)
      simp at h1 h2 h3 h4
      rw [hr, if_pos h1, if_pos h2, if_pos h3, h4])
  have HWX := Lib.hid (HB2.out.trans (hHeld.mono HB2.out.size))
  rw [← hhp]
  clear hWX hS hhp hHeld
  go_wp2_with fail
  go_loopw [39] (fun x wr => ∃ k : Nat, x = .int .i64 k ∧ k ≤ 4 ∧ wr = WX ∧ ∀ j, j < k → S j = 0) (fun x _ => 4 - (intOf x).toNat)
  case atStart => exact ⟨0, rfl, by omega, rfl, fun j hj => by omega⟩
  case round =>
    obtain ⟨k, rfl, hk, hw, h0⟩ := hrel
    subst wr
    have HZ := Lib.hid h0
    clear h0
    by_cases hlt : k < 4
    · have c1 := HC.out k hlt
      obtain ⟨x, hx⟩ : ∃ x, x = S k := ⟨_, rfl⟩
      rw [← hx] at c1
      have HX := Lib.hid hx
      clear hx
      by_cases hz : x = 0
      · have hz1 := Lib.hid hz
        have hz2 : (x != 0) = false := by simp [hz]
        clear hz
        go_wp2_with fail
        go_roundw
        case rel => exact ⟨k + 1, by go_num, by omega, by first | rfl | trivial, fun j hj => by
          rcases Nat.lt_or_ge j k with h5 | h5
          · exact HZ.out j h5
          · obtain rfl : j = k := by omega
            rw [← HX.out]; exact hz1.out⟩
        case measure => simp [intOf]; omega
      · have hz1 := Lib.hid hz
        have hz2 : (x != 0) = true := by simp [hz]
        clear hz
        go_wp2_with fail
        go_ret
        exact ⟨by rw [HRES.out.1 k hlt HZ.out (by rw [← HX.out]; exact hz1.out), ← HX.out]; rfl, HWX.out⟩
    · have HE := Lib.hid (HRES.out.2 fun j hj => HZ.out j (by omega))
      go_wp2_with fail
      go_ret
      exact ⟨by rw [HE.out]; rfl, HWX.out⟩
end Go.Proofs.YtmjfggadehkbjaaGreatDoor
