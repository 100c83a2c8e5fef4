/- datakitref02.size where one of the two has no digits, or where one is longer. -/
import Derived.Test.YtmjfggadehkbjaaGreatDoorXI
namespace Go.Proofs.YtmjfggadehkbjaaGreatDoor
open Go.RowKit

set_option maxRecDepth 100000 in
theorem size02_0a (a b : DecD) (w : World) (h0 : a.digits.size = 0) :
    Calls Tryz.prog 100 #[.agg #[.bool a.neg, .string a.digits, .int .i64 a.exp], .agg #[.bool b.neg, .string b.digits, .int .i64 b.exp]] w (CmpE (magC a b) w) := by
  have HB := Lib.hid (show Below w.heap.size w ((w.alloc (.cells #[.bool a.neg, .string a.digits, .int .i64 a.exp] 23)).alloc (.cells #[.bool b.neg, .string b.digits, .int .i64 b.exp] 23)) from belowThen (belowBox w _) (belowBox _ _))
  obtain ⟨r, hr⟩ : ∃ r, r = magC a b := ⟨_, rfl⟩
  rw [← hr]
  have HR := Lib.hid (show r = lenC a.digits b.digits by rw [hr]; exact magC_0 (.inl h0))
  have hd : a.digits.toList.isEmpty = true := by rw [toList_nil h0]; rfl
  clear hr h0
  go_enter Tryz.func100, Tryz.ntmps100
  go_wp2_with (go_at_call 129; refine (cmp01_r _ _ _).mono ?_; rintro e w2 ⟨rfl, rfl⟩; rw [← HR.out])
  go_ret
  exact ⟨rfl, HB.out⟩
set_option maxRecDepth 100000 in
theorem size02_0b (a b : DecD) (w : World) (h0 : b.digits.size = 0) (h1 : 0 < a.digits.size) :
    Calls Tryz.prog 100 #[.agg #[.bool a.neg, .string a.digits, .int .i64 a.exp], .agg #[.bool b.neg, .string b.digits, .int .i64 b.exp]] w (CmpE (magC a b) w) := by
  have HB := Lib.hid (show Below w.heap.size w ((w.alloc (.cells #[.bool a.neg, .string a.digits, .int .i64 a.exp] 23)).alloc (.cells #[.bool b.neg, .string b.digits, .int .i64 b.exp] 23)) from belowThen (belowBox w _) (belowBox _ _))
  obtain ⟨r, hr⟩ : ∃ r, r = magC a b := ⟨_, rfl⟩
  rw [← hr]
  have HR := Lib.hid (show r = lenC a.digits b.digits by rw [hr]; exact magC_0 (.inr h0))
  have hd : b.digits.toList.isEmpty = true := by rw [toList_nil h0]; rfl
  have hd2 : a.digits.toList.isEmpty = false := by rw [List.isEmpty_eq_false_iff]; exact ne_toList h1
  clear hr h0 h1
  go_enter Tryz.func100, Tryz.ntmps100
  go_wp2_with (go_at_call 129; refine (cmp01_r _ _ _).mono ?_; rintro e w2 ⟨rfl, rfl⟩; rw [← HR.out])
  go_ret
  exact ⟨rfl, HB.out⟩
end Go.Proofs.YtmjfggadehkbjaaGreatDoor

/- datakitref02.size where one number is longer. -/
namespace Go.Proofs.YtmjfggadehkbjaaGreatDoor
open Go.RowKit

set_option maxRecDepth 100000 in
theorem size02_lt (a b : DecD) (w : World) (ha : VDec a) (hb : VDec b) (h0 : 0 < a.digits.size) (h1 : 0 < b.digits.size) (h : (a.digits.size : Int) + a.exp < b.digits.size + b.exp) :
    Calls Tryz.prog 100 #[.agg #[.bool a.neg, .string a.digits, .int .i64 a.exp], .agg #[.bool b.neg, .string b.digits, .int .i64 b.exp]] w (CmpE (magC a b) w) := by
  have HB := Lib.hid (show Below w.heap.size w ((w.alloc (.cells #[.bool a.neg, .string a.digits, .int .i64 a.exp] 23)).alloc (.cells #[.bool b.neg, .string b.digits, .int .i64 b.exp] 23)) from belowThen (belowBox w _) (belowBox _ _))
  obtain ⟨r, hr⟩ : ∃ r, r = magC a b := ⟨_, rfl⟩
  rw [← hr]
  have HR := Lib.hid (show r = -1 by rw [hr]; exact (magC_ref (by omega) (by omega)).1 h)
  have hEa : -400 ≤ a.exp ∧ a.exp ≤ 400 ∧ a.digits.size ≤ 120 := by rcases ha with h | h <;> omega
  have hEb : -400 ≤ b.exp ∧ b.exp ≤ 400 ∧ b.digits.size ≤ 120 := by rcases hb with h | h <;> omega
  obtain ⟨e1, e2, e3⟩ := hEa
  obtain ⟨e4, e5, e6⟩ := hEb
  have hd : a.digits.toList.isEmpty = false := by rw [List.isEmpty_eq_false_iff]; exact ne_toList h0
  have hd2 : b.digits.toList.isEmpty = false := by rw [List.isEmpty_eq_false_iff]; exact ne_toList h1
  clear hr ha hb
  go_enter Tryz.func100, Tryz.ntmps100
  go_wp2_with fail
  go_quiet (fail)
  go_wp2_with fail
  go_ret
  exact ⟨by rw [HR.out]; rfl, HB.out.trans (drewNU _ _)⟩
set_option maxRecDepth 100000 in
theorem size02_gt (a b : DecD) (w : World) (ha : VDec a) (hb : VDec b) (h0 : 0 < a.digits.size) (h1 : 0 < b.digits.size) (h : (b.digits.size : Int) + b.exp < a.digits.size + a.exp) :
    Calls Tryz.prog 100 #[.agg #[.bool a.neg, .string a.digits, .int .i64 a.exp], .agg #[.bool b.neg, .string b.digits, .int .i64 b.exp]] w (CmpE (magC a b) w) := by
  have HB := Lib.hid (show Below w.heap.size w ((w.alloc (.cells #[.bool a.neg, .string a.digits, .int .i64 a.exp] 23)).alloc (.cells #[.bool b.neg, .string b.digits, .int .i64 b.exp] 23)) from belowThen (belowBox w _) (belowBox _ _))
  obtain ⟨r, hr⟩ : ∃ r, r = magC a b := ⟨_, rfl⟩
  rw [← hr]
  have HR := Lib.hid (show r = 1 by rw [hr]; exact (magC_ref (by omega) (by omega)).2.1 h)
  have hEa : -400 ≤ a.exp ∧ a.exp ≤ 400 ∧ a.digits.size ≤ 120 := by rcases ha with h | h <;> omega
  have hEb : -400 ≤ b.exp ∧ b.exp ≤ 400 ∧ b.digits.size ≤ 120 := by rcases hb with h | h <;> omega
  obtain ⟨e1, e2, e3⟩ := hEa
  obtain ⟨e4, e5, e6⟩ := hEb
  have hd : a.digits.toList.isEmpty = false := by rw [List.isEmpty_eq_false_iff]; exact ne_toList h0
  have hd2 : b.digits.toList.isEmpty = false := by rw [List.isEmpty_eq_false_iff]; exact ne_toList h1
  clear hr ha hb
  go_enter Tryz.func100, Tryz.ntmps100
  go_wp2_with fail
  go_quiet (fail)
  go_wp2_with fail
  go_ret
  exact ⟨by rw [HR.out]; rfl, HB.out.trans (drewNU _ _)⟩
end Go.Proofs.YtmjfggadehkbjaaGreatDoor

/- datakitref02.size where both are equally long. -/
namespace Go.Proofs.YtmjfggadehkbjaaGreatDoor
open Go.RowKit

set_option maxRecDepth 100000 in
set_option maxHeartbeats 3200000 in
theorem size02_eqA (a b : DecD) (w : World) (ha : VDec a) (hb : VDec b) (h0 : 0 < a.digits.size) (h1 : 0 < b.digits.size) (h : (a.digits.size : Int) + a.exp = b.digits.size + b.exp) (hs : b.digits.size ≤ a.digits.size) :
    Calls Tryz.prog 100 #[.agg #[.bool a.neg, .string a.digits, .int .i64 a.exp], .agg #[.bool b.neg, .string b.digits, .int .i64 b.exp]] w (CmpE (magC a b) w) := by
  obtain ⟨W0, hW0⟩ : ∃ W, W = (w.alloc (.cells #[.bool a.neg, .string a.digits, .int .i64 a.exp] 23)).alloc (.cells #[.bool b.neg, .string b.digits, .int .i64 b.exp] 23) := ⟨_, rfl⟩
  have HB := Lib.hid (show Below w.heap.size w W0 by rw [hW0]; exact belowThen (belowBox w _) (belowBox _ _))
  have RA0 := Lib.hid (show RowT 23 W0 w.heap.size [.bool a.neg, .string a.digits, .int .i64 a.exp] by rw [hW0]; exact (RowT.new w 23 _).alloc _)
  have RB0 := Lib.hid (show RowT 23 W0 (w.heap.size + 1) [.bool b.neg, .string b.digits, .int .i64 b.exp] by
    rw [hW0]
    have := RowT.new (w.alloc (.cells #[.bool a.neg, .string a.digits, .int .i64 a.exp] 23)) 23 [.bool b.neg, .string b.digits, .int .i64 b.exp]
    rw [World.size_alloc] at this
    exact this)
  have HW0 := Lib.hid hW0
  obtain ⟨ka, hka⟩ : ∃ k, k = max a.digits.size b.digits.size - a.digits.size := ⟨_, rfl⟩
  obtain ⟨kb, hkb⟩ : ∃ k, k = max a.digits.size b.digits.size - b.digits.size := ⟨_, rfl⟩
  obtain ⟨r, hr⟩ : ∃ r, r = magC a b := ⟨_, rfl⟩
  rw [← hr]
  have HR := Lib.hid (show r = lenC (a.digits ++ zerosS ka) (b.digits ++ zerosS kb) by rw [hr, (magC_ref (by omega) (by omega)).2.2 h, hka, hkb]; rfl)
  have hEa : -400 ≤ a.exp ∧ a.exp ≤ 400 ∧ a.digits.size ≤ 120 := by rcases ha with h | h <;> omega
  have hEb : -400 ≤ b.exp ∧ b.exp ≤ 400 ∧ b.digits.size ≤ 120 := by rcases hb with h | h <;> omega
  obtain ⟨e1, e2, e3⟩ := hEa
  obtain ⟨e4, e5, e6⟩ := hEb
  have k1 : (ka : Int) + a.digits.size ≤ a.digits.size := by omega
  have k2 : (a.digits.size : Int) ≤ ka + a.digits.size := by omega
  have k3 : (kb : Int) + b.digits.size ≤ a.digits.size := by omega
  have k4 : (a.digits.size : Int) ≤ kb + b.digits.size := by omega
  have z1 : (zerosS ka).size ≤ 120 := by rw [zerosS_size]; omega
  have z2 : (zerosS kb).size ≤ 120 := by rw [zerosS_size]; omega
  have hl1 : (a.digits.size : Int) + a.exp ≤ b.digits.size + b.exp := by omega
  have hl2 : (b.digits.size : Int) + b.exp ≤ a.digits.size + a.exp := by omega
  have hd : a.digits.toList.isEmpty = false := by rw [List.isEmpty_eq_false_iff]; exact ne_toList h0
  have hd2 : b.digits.toList.isEmpty = false := by rw [List.isEmpty_eq_false_iff]; exact ne_toList h1
  clear hr ha hb h hka hkb hW0
  go_enter Tryz.func100, Tryz.ntmps100
  go_wp2_with fail
  go_quiet (fail)
  rw [← HW0.out]
  obtain ⟨W, hW⟩ : ∃ W, W = W0.drewN nq := ⟨_, rfl⟩
  rw [← hW]
  have HBW := Lib.hid (show Below w.heap.size w W by rw [hW]; exact HB.out.trans (drewNU _ _))
  have RA := Lib.hid (show RowT 23 W w.heap.size [.bool a.neg, .string a.digits, .int .i64 a.exp] by rw [hW]; exact RA0.out.then (drewNU _ _))
  have RB := Lib.hid (show RowT 23 W (w.heap.size + 1) [.bool b.neg, .string b.digits, .int .i64 b.exp] by rw [hW]; exact RB0.out.then (drewNU _ _))
  have c1 := RA.out.cell (j := 1) (v := .string a.digits) rfl
  have d1 := RB.out.cell (j := 1) (v := .string b.digits) rfl
  clear hW HW0
  go_wp2_with fail
  refine wp_region_held_drew (S := fun u => Below W.heap.size W u) (by kernel_rfl) (drewU W) (fun hHeld => ?_)
  refine' wpAnyH_takeU (i := 0) (v := .pointer (some ⟨w.heap.size, 1, none⟩)) _ rfl rfl (by kernel_rfl) (by kernel_rfl) (by kernel_rfl) (fun _ _ _ h => h) (.inl ⟨by rfl, fun u hu => (by go_simp)⟩) hHeld ?_
  simp only [List.set_cons_succ, List.set_cons_zero]
  refine' wpAnyH_takeU (i := 1) (v := .string a.digits) _ rfl rfl (by kernel_rfl) (by kernel_rfl) (by kernel_rfl) (fun _ _ _ h => h) (.inl ⟨by rfl, fun u hu => (by have hc := (RA.out.then hu).cell (j := 1) (v := .string a.digits) rfl; go_simp)⟩) hHeld ?_
  simp only [List.set_cons_succ, List.set_cons_zero]
  refine' wpAnyH_takeU (i := 2) (v := .int .i64 (a.digits.size : Int)) _ rfl rfl (by kernel_rfl) (by kernel_rfl) (by kernel_rfl) (fun _ _ _ h => h) (.inl ⟨by rfl, fun u hu => (by go_simp)⟩) hHeld ?_
  simp only [List.set_cons_succ, List.set_cons_zero]
  refine' wpAnyH_takeU (i := 3) (v := .pointer (some ⟨w.heap.size, 1, none⟩)) _ rfl rfl (by kernel_rfl) (by kernel_rfl) (by kernel_rfl) (fun _ _ _ h => h) (.inl ⟨by rfl, fun u hu => (by go_simp)⟩) hHeld ?_
  simp only [List.set_cons_succ, List.set_cons_zero]
  refine' wpAnyH_takeU (i := 4) (v := .string a.digits) _ rfl rfl (by kernel_rfl) (by kernel_rfl) (by kernel_rfl) (fun _ _ _ h => h) (.inl ⟨by rfl, fun u hu => (by have hc := (RA.out.then hu).cell (j := 1) (v := .string a.digits) rfl; go_simp)⟩) hHeld ?_
  simp only [List.set_cons_succ, List.set_cons_zero]
  refine' wpAnyH_takeU (i := 5) (v := .int .i64 (a.digits.size : Int)) _ rfl rfl (by kernel_rfl) (by kernel_rfl) (by kernel_rfl) (fun _ _ _ h => h) (.inl ⟨by rfl, fun u hu => (by go_simp)⟩) hHeld ?_
  simp only [List.set_cons_succ, List.set_cons_zero]
  refine' wpAnyH_takeU (i := 6) (v := .int .i64 ((ka : Nat) : Int)) _ rfl rfl (by kernel_rfl) (by kernel_rfl) (by kernel_rfl) (fun _ _ _ h => h) (.inl ⟨by rfl, fun u hu => (by go_simp; all_goals first | omega | (rw [IntKind.wrap_i64]; omega))⟩) hHeld ?_
  simp only [List.set_cons_succ, List.set_cons_zero]
  refine' wpAnyH_takeU (i := 9) (v := .pointer (some ⟨(w.heap.size + 1), 1, none⟩)) _ rfl rfl (by kernel_rfl) (by kernel_rfl) (by kernel_rfl) (fun _ _ _ h => h) (.inl ⟨by rfl, fun u hu => (by go_simp)⟩) hHeld ?_
  simp only [List.set_cons_succ, List.set_cons_zero]
  refine' wpAnyH_takeU (i := 10) (v := .string b.digits) _ rfl rfl (by kernel_rfl) (by kernel_rfl) (by kernel_rfl) (fun _ _ _ h => h) (.inl ⟨by rfl, fun u hu => (by have hc := (RB.out.then hu).cell (j := 1) (v := .string b.digits) rfl; go_simp)⟩) hHeld ?_
  simp only [List.set_cons_succ, List.set_cons_zero]
  refine' wpAnyH_takeU (i := 11) (v := .int .i64 (a.digits.size : Int)) _ rfl rfl (by kernel_rfl) (by kernel_rfl) (by kernel_rfl) (fun _ _ _ h => h) (.inl ⟨by rfl, fun u hu => (by go_simp)⟩) hHeld ?_
  simp only [List.set_cons_succ, List.set_cons_zero]
  refine' wpAnyH_takeU (i := 12) (v := .pointer (some ⟨(w.heap.size + 1), 1, none⟩)) _ rfl rfl (by kernel_rfl) (by kernel_rfl) (by kernel_rfl) (fun _ _ _ h => h) (.inl ⟨by rfl, fun u hu => (by go_simp)⟩) hHeld ?_
  simp only [List.set_cons_succ, List.set_cons_zero]
  refine' wpAnyH_takeU (i := 13) (v := .string b.digits) _ rfl rfl (by kernel_rfl) (by kernel_rfl) (by kernel_rfl) (fun _ _ _ h => h) (.inl ⟨by rfl, fun u hu => (by have hc := (RB.out.then hu).cell (j := 1) (v := .string b.digits) rfl; go_simp)⟩) hHeld ?_
  simp only [List.set_cons_succ, List.set_cons_zero]
  refine' wpAnyH_takeU (i := 14) (v := .int .i64 (b.digits.size : Int)) _ rfl rfl (by kernel_rfl) (by kernel_rfl) (by kernel_rfl) (fun _ _ _ h => h) (.inl ⟨by rfl, fun u hu => (by go_simp)⟩) hHeld ?_
  simp only [List.set_cons_succ, List.set_cons_zero]
  refine' wpAnyH_takeU (i := 15) (v := .int .i64 ((kb : Nat) : Int)) _ rfl rfl (by kernel_rfl) (by kernel_rfl) (by kernel_rfl) (fun _ _ _ h => h) (.inl ⟨by rfl, fun u hu => (by go_simp; all_goals first | omega | (rw [IntKind.wrap_i64]; omega))⟩) hHeld ?_
  simp only [List.set_cons_succ, List.set_cons_zero]
  refine wpAnyH_ready (rs := [7]) (by kernel_rfl) (by simp) ?_
  refine AllReadyH.cons rfl (fun K hK => ?_) AllReadyH.nil
  rw [if_pos (by rfl)]
  go_simp
  refine (noughts_ex ka _ (by omega)).mono ?_
  rintro e u7 ⟨rfl, hbC⟩
  refine hK.out _ _ (hHeld.trans (hbC.mono hHeld.size)) (fun hHeldx => ?_)
  clear hK K hbC hHeld
  have hHeld := hHeldx
  clear hHeldx
  refine' wpAnyH_takeU (i := 8) (v := .string (a.digits ++ zerosS ka)) _ rfl rfl (by kernel_rfl) (by kernel_rfl) (by kernel_rfl) (fun _ _ _ h => h) (.inl ⟨by rfl, fun u hu => (by go_simp; all_goals omega)⟩) hHeld ?_
  simp only [List.set_cons_succ, List.set_cons_zero]
  refine wpAnyH_ready (rs := [16]) (by kernel_rfl) (by simp) ?_
  refine AllReadyH.cons rfl (fun K hK => ?_) AllReadyH.nil
  rw [if_pos (by rfl)]
  go_simp
  refine (noughts_ex kb _ (by omega)).mono ?_
  rintro e u16 ⟨rfl, hbC⟩
  refine hK.out _ _ (hHeld.trans (hbC.mono hHeld.size)) (fun hHeldx => ?_)
  clear hK K hbC hHeld
  have hHeld := hHeldx
  clear hHeldx
  refine' wpAnyH_takeU (i := 17) (v := .string (b.digits ++ zerosS kb)) _ rfl rfl (by kernel_rfl) (by kernel_rfl) (by kernel_rfl) (fun _ _ _ h => h) (.inl ⟨by rfl, fun u hu => (by go_simp; all_goals omega)⟩) hHeld ?_
  simp only [List.set_cons_succ, List.set_cons_zero]
  refine wpAnyH_ready (rs := [18]) (by kernel_rfl) (by simp) ?_
  refine AllReadyH.cons rfl (fun K hK => ?_) AllReadyH.nil
  rw [if_pos (by rfl)]
  go_simp
  refine (cmp01_r _ _ _).mono ?_
  rintro e u18 ⟨rfl, rfl⟩
  rw [← HR.out]
  refine hK.out _ _ hHeld (fun hHeldx => ?_)
  clear hK K hHeldx
  refine' wpAnyH_takeU (i := 19) (v := .int .i64 r) _ rfl rfl (by kernel_rfl) (by kernel_rfl) (by kernel_rfl) (fun _ _ _ h => h) (.inl ⟨by rfl, fun u hu => (by go_simp)⟩) hHeld ?_
  simp only [List.set_cons_succ, List.set_cons_zero]
  refine wpAnyH_done (by kernel_rfl) ?_ _
  go_wp2_with fail
  go_ret
  exact ⟨rfl, HBW.out.trans (hHeld.mono HBW.out.size)⟩
set_option maxRecDepth 100000 in
set_option maxHeartbeats 3200000 in
theorem size02_eqB (a b : DecD) (w : World) (ha : VDec a) (hb : VDec b) (h0 : 0 < a.digits.size) (h1 : 0 < b.digits.size) (h : (a.digits.size : Int) + a.exp = b.digits.size + b.exp) (hs : a.digits.size < b.digits.size) :
    Calls Tryz.prog 100 #[.agg #[.bool a.neg, .string a.digits, .int .i64 a.exp], .agg #[.bool b.neg, .string b.digits, .int .i64 b.exp]] w (CmpE (magC a b) w) := by
  obtain ⟨W0, hW0⟩ : ∃ W, W = (w.alloc (.cells #[.bool a.neg, .string a.digits, .int .i64 a.exp] 23)).alloc (.cells #[.bool b.neg, .string b.digits, .int .i64 b.exp] 23) := ⟨_, rfl⟩
  have HB := Lib.hid (show Below w.heap.size w W0 by rw [hW0]; exact belowThen (belowBox w _) (belowBox _ _))
  have RA0 := Lib.hid (show RowT 23 W0 w.heap.size [.bool a.neg, .string a.digits, .int .i64 a.exp] by rw [hW0]; exact (RowT.new w 23 _).alloc _)
  have RB0 := Lib.hid (show RowT 23 W0 (w.heap.size + 1) [.bool b.neg, .string b.digits, .int .i64 b.exp] by
    rw [hW0]
    have := RowT.new (w.alloc (.cells #[.bool a.neg, .string a.digits, .int .i64 a.exp] 23)) 23 [.bool b.neg, .string b.digits, .int .i64 b.exp]
    rw [World.size_alloc] at this
    exact this)
  have HW0 := Lib.hid hW0
  obtain ⟨ka, hka⟩ : ∃ k, k = max a.digits.size b.digits.size - a.digits.size := ⟨_, rfl⟩
  obtain ⟨kb, hkb⟩ : ∃ k, k = max a.digits.size b.digits.size - b.digits.size := ⟨_, rfl⟩
  obtain ⟨r, hr⟩ : ∃ r, r = magC a b := ⟨_, rfl⟩
  rw [← hr]
  have HR := Lib.hid (show r = lenC (a.digits ++ zerosS ka) (b.digits ++ zerosS kb) by rw [hr, (magC_ref (by omega) (by omega)).2.2 h, hka, hkb]; rfl)
  have hEa : -400 ≤ a.exp ∧ a.exp ≤ 400 ∧ a.digits.size ≤ 120 := by rcases ha with h | h <;> omega
  have hEb : -400 ≤ b.exp ∧ b.exp ≤ 400 ∧ b.digits.size ≤ 120 := by rcases hb with h | h <;> omega
  obtain ⟨e1, e2, e3⟩ := hEa
  obtain ⟨e4, e5, e6⟩ := hEb
  have k1 : (ka : Int) + a.digits.size ≤ b.digits.size := by omega
  have k2 : (b.digits.size : Int) ≤ ka + a.digits.size := by omega
  have k3 : (kb : Int) + b.digits.size ≤ b.digits.size := by omega
  have k4 : (b.digits.size : Int) ≤ kb + b.digits.size := by omega
  have z1 : (zerosS ka).size ≤ 120 := by rw [zerosS_size]; omega
  have z2 : (zerosS kb).size ≤ 120 := by rw [zerosS_size]; omega
  have hl1 : (a.digits.size : Int) + a.exp ≤ b.digits.size + b.exp := by omega
  have hl2 : (b.digits.size : Int) + b.exp ≤ a.digits.size + a.exp := by omega
  have hd : a.digits.toList.isEmpty = false := by rw [List.isEmpty_eq_false_iff]; exact ne_toList h0
  have hd2 : b.digits.toList.isEmpty = false := by rw [List.isEmpty_eq_false_iff]; exact ne_toList h1
  clear hr ha hb h hka hkb hW0
  go_enter Tryz.func100, Tryz.ntmps100
  go_wp2_with fail
  go_quiet (fail)
  rw [← HW0.out]
  obtain ⟨W, hW⟩ : ∃ W, W = W0.drewN nq := ⟨_, rfl⟩
  rw [← hW]
  have HBW := Lib.hid (show Below w.heap.size w W by rw [hW]; exact HB.out.trans (drewNU _ _))
  have RA := Lib.hid (show RowT 23 W w.heap.size [.bool a.neg, .string a.digits, .int .i64 a.exp] by rw [hW]; exact RA0.out.then (drewNU _ _))
  have RB := Lib.hid (show RowT 23 W (w.heap.size + 1) [.bool b.neg, .string b.digits, .int .i64 b.exp] by rw [hW]; exact RB0.out.then (drewNU _ _))
  have c1 := RA.out.cell (j := 1) (v := .string a.digits) rfl
  have d1 := RB.out.cell (j := 1) (v := .string b.digits) rfl
  clear hW HW0
  go_wp2_with fail
  refine wp_region_held_drew (S := fun u => Below W.heap.size W u) (by kernel_rfl) (drewU W) (fun hHeld => ?_)
  refine' wpAnyH_takeU (i := 0) (v := .pointer (some ⟨w.heap.size, 1, none⟩)) _ rfl rfl (by kernel_rfl) (by kernel_rfl) (by kernel_rfl) (fun _ _ _ h => h) (.inl ⟨by rfl, fun u hu => (by go_simp)⟩) hHeld ?_
  simp only [List.set_cons_succ, List.set_cons_zero]
  refine' wpAnyH_takeU (i := 1) (v := .string a.digits) _ rfl rfl (by kernel_rfl) (by kernel_rfl) (by kernel_rfl) (fun _ _ _ h => h) (.inl ⟨by rfl, fun u hu => (by have hc := (RA.out.then hu).cell (j := 1) (v := .string a.digits) rfl; go_simp)⟩) hHeld ?_
  simp only [List.set_cons_succ, List.set_cons_zero]
  refine' wpAnyH_takeU (i := 2) (v := .int .i64 (b.digits.size : Int)) _ rfl rfl (by kernel_rfl) (by kernel_rfl) (by kernel_rfl) (fun _ _ _ h => h) (.inl ⟨by rfl, fun u hu => (by go_simp)⟩) hHeld ?_
  simp only [List.set_cons_succ, List.set_cons_zero]
  refine' wpAnyH_takeU (i := 3) (v := .pointer (some ⟨w.heap.size, 1, none⟩)) _ rfl rfl (by kernel_rfl) (by kernel_rfl) (by kernel_rfl) (fun _ _ _ h => h) (.inl ⟨by rfl, fun u hu => (by go_simp)⟩) hHeld ?_
  simp only [List.set_cons_succ, List.set_cons_zero]
  refine' wpAnyH_takeU (i := 4) (v := .string a.digits) _ rfl rfl (by kernel_rfl) (by kernel_rfl) (by kernel_rfl) (fun _ _ _ h => h) (.inl ⟨by rfl, fun u hu => (by have hc := (RA.out.then hu).cell (j := 1) (v := .string a.digits) rfl; go_simp)⟩) hHeld ?_
  simp only [List.set_cons_succ, List.set_cons_zero]
  refine' wpAnyH_takeU (i := 5) (v := .int .i64 (a.digits.size : Int)) _ rfl rfl (by kernel_rfl) (by kernel_rfl) (by kernel_rfl) (fun _ _ _ h => h) (.inl ⟨by rfl, fun u hu => (by go_simp)⟩) hHeld ?_
  simp only [List.set_cons_succ, List.set_cons_zero]
  refine' wpAnyH_takeU (i := 6) (v := .int .i64 ((ka : Nat) : Int)) _ rfl rfl (by kernel_rfl) (by kernel_rfl) (by kernel_rfl) (fun _ _ _ h => h) (.inl ⟨by rfl, fun u hu => (by go_simp; all_goals first | omega | (rw [IntKind.wrap_i64]; omega))⟩) hHeld ?_
  simp only [List.set_cons_succ, List.set_cons_zero]
  refine' wpAnyH_takeU (i := 9) (v := .pointer (some ⟨(w.heap.size + 1), 1, none⟩)) _ rfl rfl (by kernel_rfl) (by kernel_rfl) (by kernel_rfl) (fun _ _ _ h => h) (.inl ⟨by rfl, fun u hu => (by go_simp)⟩) hHeld ?_
  simp only [List.set_cons_succ, List.set_cons_zero]
  refine' wpAnyH_takeU (i := 10) (v := .string b.digits) _ rfl rfl (by kernel_rfl) (by kernel_rfl) (by kernel_rfl) (fun _ _ _ h => h) (.inl ⟨by rfl, fun u hu => (by have hc := (RB.out.then hu).cell (j := 1) (v := .string b.digits) rfl; go_simp)⟩) hHeld ?_
  simp only [List.set_cons_succ, List.set_cons_zero]
  refine' wpAnyH_takeU (i := 11) (v := .int .i64 (b.digits.size : Int)) _ rfl rfl (by kernel_rfl) (by kernel_rfl) (by kernel_rfl) (fun _ _ _ h => h) (.inl ⟨by rfl, fun u hu => (by go_simp)⟩) hHeld ?_
  simp only [List.set_cons_succ, List.set_cons_zero]
  refine' wpAnyH_takeU (i := 12) (v := .pointer (some ⟨(w.heap.size + 1), 1, none⟩)) _ rfl rfl (by kernel_rfl) (by kernel_rfl) (by kernel_rfl) (fun _ _ _ h => h) (.inl ⟨by rfl, fun u hu => (by go_simp)⟩) hHeld ?_
  simp only [List.set_cons_succ, List.set_cons_zero]
  refine' wpAnyH_takeU (i := 13) (v := .string b.digits) _ rfl rfl (by kernel_rfl) (by kernel_rfl) (by kernel_rfl) (fun _ _ _ h => h) (.inl ⟨by rfl, fun u hu => (by have hc := (RB.out.then hu).cell (j := 1) (v := .string b.digits) rfl; go_simp)⟩) hHeld ?_
  simp only [List.set_cons_succ, List.set_cons_zero]
  refine' wpAnyH_takeU (i := 14) (v := .int .i64 (b.digits.size : Int)) _ rfl rfl (by kernel_rfl) (by kernel_rfl) (by kernel_rfl) (fun _ _ _ h => h) (.inl ⟨by rfl, fun u hu => (by go_simp)⟩) hHeld ?_
  simp only [List.set_cons_succ, List.set_cons_zero]
  refine' wpAnyH_takeU (i := 15) (v := .int .i64 ((kb : Nat) : Int)) _ rfl rfl (by kernel_rfl) (by kernel_rfl) (by kernel_rfl) (fun _ _ _ h => h) (.inl ⟨by rfl, fun u hu => (by go_simp; all_goals first | omega | (rw [IntKind.wrap_i64]; omega))⟩) hHeld ?_
  simp only [List.set_cons_succ, List.set_cons_zero]
  refine wpAnyH_ready (rs := [7]) (by kernel_rfl) (by simp) ?_
  refine AllReadyH.cons rfl (fun K hK => ?_) AllReadyH.nil
  rw [if_pos (by rfl)]
  go_simp
  refine (noughts_ex ka _ (by omega)).mono ?_
  rintro e u7 ⟨rfl, hbC⟩
  refine hK.out _ _ (hHeld.trans (hbC.mono hHeld.size)) (fun hHeldx => ?_)
  clear hK K hbC hHeld
  have hHeld := hHeldx
  clear hHeldx
  refine' wpAnyH_takeU (i := 8) (v := .string (a.digits ++ zerosS ka)) _ rfl rfl (by kernel_rfl) (by kernel_rfl) (by kernel_rfl) (fun _ _ _ h => h) (.inl ⟨by rfl, fun u hu => (by go_simp; all_goals omega)⟩) hHeld ?_
  simp only [List.set_cons_succ, List.set_cons_zero]
  refine wpAnyH_ready (rs := [16]) (by kernel_rfl) (by simp) ?_
  refine AllReadyH.cons rfl (fun K hK => ?_) AllReadyH.nil
  rw [if_pos (by rfl)]
  go_simp
  refine (noughts_ex kb _ (by omega)).mono ?_
  rintro e u16 ⟨rfl, hbC⟩
  refine hK.out _ _ (hHeld.trans (hbC.mono hHeld.size)) (fun hHeldx => ?_)
  clear hK K hbC hHeld
  have hHeld := hHeldx
  clear hHeldx
  refine' wpAnyH_takeU (i := 17) (v := .string (b.digits ++ zerosS kb)) _ rfl rfl (by kernel_rfl) (by kernel_rfl) (by kernel_rfl) (fun _ _ _ h => h) (.inl ⟨by rfl, fun u hu => (by go_simp; all_goals omega)⟩) hHeld ?_
  simp only [List.set_cons_succ, List.set_cons_zero]
  refine wpAnyH_ready (rs := [18]) (by kernel_rfl) (by simp) ?_
  refine AllReadyH.cons rfl (fun K hK => ?_) AllReadyH.nil
  rw [if_pos (by rfl)]
  go_simp
  refine (cmp01_r _ _ _).mono ?_
  rintro e u18 ⟨rfl, rfl⟩
  rw [← HR.out]
  refine hK.out _ _ hHeld (fun hHeldx => ?_)
  clear hK K hHeldx
  refine' wpAnyH_takeU (i := 19) (v := .int .i64 r) _ rfl rfl (by kernel_rfl) (by kernel_rfl) (by kernel_rfl) (fun _ _ _ h => h) (.inl ⟨by rfl, fun u hu => (by go_simp)⟩) hHeld ?_
  simp only [List.set_cons_succ, List.set_cons_zero]
  refine wpAnyH_done (by kernel_rfl) ?_ _
  go_wp2_with fail
  go_ret
  exact ⟨rfl, HBW.out.trans (hHeld.mono HBW.out.size)⟩
end Go.Proofs.YtmjfggadehkbjaaGreatDoor

/- datakitref02.size, datakitref02.Cmp. -/
namespace Go.Proofs.YtmjfggadehkbjaaGreatDoor
open Go.RowKit

theorem dsize_r (a b : DecD) (w : World) (ha : VDec a) (hb : VDec b) :
    Calls Tryz.prog 100 #[.agg #[.bool a.neg, .string a.digits, .int .i64 a.exp], .agg #[.bool b.neg, .string b.digits, .int .i64 b.exp]] w (CmpE (magC a b) w) := by
  by_cases h0 : a.digits.size = 0
  · exact size02_0a a b w h0
  · by_cases h1 : b.digits.size = 0
    · exact size02_0b a b w h1 (by omega)
    · rcases Int.lt_trichotomy ((a.digits.size : Int) + a.exp) (b.digits.size + b.exp) with h | h | h
      · exact size02_lt a b w ha hb (by omega) (by omega) h
      · by_cases hs : b.digits.size ≤ a.digits.size
        · exact size02_eqA a b w ha hb (by omega) (by omega) h hs
        · exact size02_eqB a b w ha hb (by omega) (by omega) h (by omega)
      · exact size02_gt a b w ha hb (by omega) (by omega) h
set_option maxRecDepth 100000 in
set_option maxHeartbeats 1600000 in
theorem deccmp_r (a b : DecD) (w : World) (ha : VDec a) (hb : VDec b) :
    Calls Tryz.prog 43 #[.agg #[.bool a.neg, .string a.digits, .int .i64 a.exp], .agg #[.bool b.neg, .string b.digits, .int .i64 b.exp]] w (CmpE (decC a b) w) := by
  obtain ⟨na, da, ea⟩ := a
  obtain ⟨nb, db, eb⟩ := b
  have HVA := Lib.hid ha
  have HVB := Lib.hid hb
  clear ha hb
  have D1 := Lib.hid (fun w => dsize_r ⟨na, da, ea⟩ ⟨nb, db, eb⟩ w HVA.out HVB.out)
  have D2 := Lib.hid (fun w => dsize_r ⟨nb, db, eb⟩ ⟨na, da, ea⟩ w HVB.out HVA.out)
  obtain ⟨r, hr⟩ : ∃ r, r = decC ⟨na, da, ea⟩ ⟨nb, db, eb⟩ := ⟨_, rfl⟩
  rw [← hr]
  have HR := Lib.hid hr
  clear hr HVA HVB
  have HB := Lib.hid (show Below w.heap.size w ((w.alloc (.cells #[.bool na, .string da, .int .i64 ea] 23)).alloc (.cells #[.bool nb, .string db, .int .i64 eb] 23)) from belowThen (belowBox w _) (belowBox _ _))
  dsimp only
  cases na <;> cases nb
  · go_enter Tryz.func43, Tryz.ntmps43
    go_wp2_with fail
    refine (D1.out _).mono ?_
    rintro e w1 ⟨rfl, hb⟩
    have HB1 := Lib.hid (belowThen HB.out hb)
    clear hb
    rw [show magC ⟨false, da, ea⟩ ⟨false, db, eb⟩ = r from HR.out.symm]
    go_wp2_with fail
    go_ret
    exact ⟨rfl, HB1.out⟩
  · go_enter Tryz.func43, Tryz.ntmps43
    go_wp2_with fail
    go_ret
    exact ⟨by rw [HR.out]; rfl, HB.out⟩
  · go_enter Tryz.func43, Tryz.ntmps43
    go_wp2_with fail
    go_ret
    exact ⟨by rw [HR.out]; rfl, HB.out⟩
  · go_enter Tryz.func43, Tryz.ntmps43
    go_wp2_with fail
    refine (D2.out _).mono ?_
    rintro e w1 ⟨rfl, hb⟩
    have HB1 := Lib.hid (belowThen HB.out hb)
    clear hb
    rw [show magC ⟨true, db, eb⟩ ⟨true, da, ea⟩ = r from HR.out.symm]
    go_wp2_with fail
    go_ret
    exact ⟨rfl, HB1.out⟩
end Go.Proofs.YtmjfggadehkbjaaGreatDoor
