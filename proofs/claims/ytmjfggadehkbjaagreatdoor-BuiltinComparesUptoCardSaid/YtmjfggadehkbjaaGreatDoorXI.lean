/- decimal.align. -/
import Derived.Test.YtmjfggadehkbjaaGreatDoorXG
import Derived.Test.YtmjfggadehkbjaaGreatDoorXH
namespace Go.Proofs.YtmjfggadehkbjaaGreatDoor
open Go.RowKit

theorem rep8_ex (m : Nat) (w : World) (hm : m ≤ 1000) : Calls Tryz.prog 68 #[.string ⟨#[48]⟩, .int .i64 m] w (NouR m w) := by
  refine (Tryz.strings_Repeat ⟨#[48]⟩ m w (by omega) (by first | omega | (show 1 * m ≤ _; omega))).mono ?_
  rintro e w' ⟨rfl, hb⟩
  exact ⟨by rw [← strOf_rep], hb⟩
def AlnR (x y : ByteArray) (w : World) (e : Ending) (w' : World) : Prop := (∃ z : Int, e = .returned (.tuple #[.string x, .string y, .int .i64 z])) ∧ Below w.heap.size w w'
theorem results_tmp3' {fn : Func} {t u v : Tmp} (h : fn.results = #[.tmp t, .tmp u, .tmp v]) (tmps : Array Value) (P : Program) (w : World) :
    (results fn tmps).run P w = .ok (.tuple #[tmps.getD t undef, tmps.getD u undef, tmps.getD v undef]) w := by
  simp [results, h]
set_option maxRecDepth 100000 in
set_option maxHeartbeats 3200000 in
theorem aln0a (a b : DecD) (w : World) (ha : VDec a) (hb : VDec b) (h0 : a.digits.size = 0) :
    Calls Tryz.prog 69 #[.agg #[.bool a.neg, .string a.digits, .int .i64 a.exp], .agg #[.bool b.neg, .string b.digits, .int .i64 b.exp]] w (AlnR (alignD a b).1 (alignD a b).2 w) := by
  have HQ := Lib.hid (show (alignD a b).1 = ⟨#[]⟩ ∧ (alignD a b).2 = b.digits by
    unfold alignD
    rw [if_pos (.inl h0)]
    exact ⟨by
      have := Array.eq_empty_of_size_eq_zero (xs := a.digits.data) h0
      cases h : a.digits with | mk data => rw [h] at this; simp only at this; rw [this], rfl⟩)
  have hd := toList_nil h0
  have HVA := Lib.hid ha
  have HVB := Lib.hid hb
  have HB := Lib.hid (show Below w.heap.size w ((w.alloc (.cells #[.bool a.neg, .string a.digits, .int .i64 a.exp] 23)).alloc (.cells #[.bool b.neg, .string b.digits, .int .i64 b.exp] 23)) from belowThen (belowBox w _) (belowBox _ _))
  have RA0 := Lib.hid (show RowT 23 ((w.alloc (.cells #[.bool a.neg, .string a.digits, .int .i64 a.exp] 23)).alloc (.cells #[.bool b.neg, .string b.digits, .int .i64 b.exp] 23)) w.heap.size [.bool a.neg, .string a.digits, .int .i64 a.exp] from (RowT.new w 23 _).alloc _)
  have RB0 := Lib.hid (show RowT 23 ((w.alloc (.cells #[.bool a.neg, .string a.digits, .int .i64 a.exp] 23)).alloc (.cells #[.bool b.neg, .string b.digits, .int .i64 b.exp] 23)) (w.heap.size + 1) [.bool b.neg, .string b.digits, .int .i64 b.exp] from by
    have := RowT.new (w.alloc (.cells #[.bool a.neg, .string a.digits, .int .i64 a.exp] 23)) 23 [.bool b.neg, .string b.digits, .int .i64 b.exp]
    rw [World.size_alloc] at this
    exact this)
  clear ha hb
  go_enter Tryz.func69, Tryz.ntmps69
  go_wp2_with fail
  refine (dec_valid a _ HVA.out).mono ?_
  rintro e w1 ⟨rfl, hb⟩
  have HB1 := Lib.hid (belowThen HB.out hb)
  have RA1 := Lib.hid (RA0.out.then hb)
  have RB1 := Lib.hid (RB0.out.then hb)
  have d0 := RB1.out.cell (j := 0) (v := .bool b.neg) rfl
  have d1 := RB1.out.cell (j := 1) (v := .string b.digits) rfl
  have d2 := RB1.out.cell (j := 2) (v := .int .i64 b.exp) rfl
  clear hb RA0 RB0
  go_wp2_with fail
  refine (dec_valid b _ HVB.out).mono ?_
  rintro e W ⟨rfl, hb⟩
  have HB2 := Lib.hid (belowThen HB1.out hb)
  have RA := Lib.hid (RA1.out.then hb)
  have RB := Lib.hid (RB1.out.then hb)
  clear hb RA1 RB1 d0 d1 d2
  have c1 := RA.out.cell (j := 1) (v := .string a.digits) rfl
  have c2 := RA.out.cell (j := 2) (v := .int .i64 a.exp) rfl
  have d1 := RB.out.cell (j := 1) (v := .string b.digits) rfl
  have d2 := RB.out.cell (j := 2) (v := .int .i64 b.exp) rfl
  go_wp2_with fail
  go_quiet (fail)
  go_wp2_with fail
  refine bodyPost_ret (results_tmp3' rfl _ _ _) rfl ?_
  exact ⟨⟨_, by rw [HQ.out.1, HQ.out.2]; rfl⟩, HB2.out.trans (drewNU _ _)⟩
set_option maxRecDepth 100000 in
set_option maxHeartbeats 3200000 in
theorem aln0b (a b : DecD) (w : World) (ha : VDec a) (hb : VDec b) (h0 : b.digits.size = 0) (h1 : 0 < a.digits.size) :
    Calls Tryz.prog 69 #[.agg #[.bool a.neg, .string a.digits, .int .i64 a.exp], .agg #[.bool b.neg, .string b.digits, .int .i64 b.exp]] w (AlnR (alignD a b).1 (alignD a b).2 w) := by
  have HQ := Lib.hid (show (alignD a b).1 = a.digits ∧ (alignD a b).2 = ⟨#[]⟩ by
    unfold alignD
    rw [if_pos (.inr h0)]
    exact ⟨rfl, by
      have := Array.eq_empty_of_size_eq_zero (xs := b.digits.data) h0
      cases h : b.digits with | mk data => rw [h] at this; simp only at this; rw [this]⟩)
  have hd := toList_nil h0
  have hd2 : a.digits.toList.isEmpty = false := by rw [List.isEmpty_eq_false_iff]; exact ne_toList h1
  have HVA := Lib.hid ha
  have HVB := Lib.hid hb
  have HB := Lib.hid (show Below w.heap.size w ((w.alloc (.cells #[.bool a.neg, .string a.digits, .int .i64 a.exp] 23)).alloc (.cells #[.bool b.neg, .string b.digits, .int .i64 b.exp] 23)) from belowThen (belowBox w _) (belowBox _ _))
  have RA0 := Lib.hid (show RowT 23 ((w.alloc (.cells #[.bool a.neg, .string a.digits, .int .i64 a.exp] 23)).alloc (.cells #[.bool b.neg, .string b.digits, .int .i64 b.exp] 23)) w.heap.size [.bool a.neg, .string a.digits, .int .i64 a.exp] from (RowT.new w 23 _).alloc _)
  have RB0 := Lib.hid (show RowT 23 ((w.alloc (.cells #[.bool a.neg, .string a.digits, .int .i64 a.exp] 23)).alloc (.cells #[.bool b.neg, .string b.digits, .int .i64 b.exp] 23)) (w.heap.size + 1) [.bool b.neg, .string b.digits, .int .i64 b.exp] from by
    have := RowT.new (w.alloc (.cells #[.bool a.neg, .string a.digits, .int .i64 a.exp] 23)) 23 [.bool b.neg, .string b.digits, .int .i64 b.exp]
    rw [World.size_alloc] at this
    exact this)
  clear ha hb
  go_enter Tryz.func69, Tryz.ntmps69
  go_wp2_with fail
  refine (dec_valid a _ HVA.out).mono ?_
  rintro e w1 ⟨rfl, hb⟩
  have HB1 := Lib.hid (belowThen HB.out hb)
  have RA1 := Lib.hid (RA0.out.then hb)
  have RB1 := Lib.hid (RB0.out.then hb)
  have d0 := RB1.out.cell (j := 0) (v := .bool b.neg) rfl
  have d1 := RB1.out.cell (j := 1) (v := .string b.digits) rfl
  have d2 := RB1.out.cell (j := 2) (v := .int .i64 b.exp) rfl
  clear hb RA0 RB0
  go_wp2_with fail
  refine (dec_valid b _ HVB.out).mono ?_
  rintro e W ⟨rfl, hb⟩
  have HB2 := Lib.hid (belowThen HB1.out hb)
  have RA := Lib.hid (RA1.out.then hb)
  have RB := Lib.hid (RB1.out.then hb)
  clear hb RA1 RB1 d0 d1 d2
  have c1 := RA.out.cell (j := 1) (v := .string a.digits) rfl
  have c2 := RA.out.cell (j := 2) (v := .int .i64 a.exp) rfl
  have d1 := RB.out.cell (j := 1) (v := .string b.digits) rfl
  have d2 := RB.out.cell (j := 2) (v := .int .i64 b.exp) rfl
  go_wp2_with fail
  go_quiet (fail)
  go_wp2_with fail
  refine bodyPost_ret (results_tmp3' rfl _ _ _) rfl ?_
  exact ⟨⟨_, by rw [HQ.out.1, HQ.out.2]; rfl⟩, HB2.out.trans (drewNU _ _)⟩
set_option maxRecDepth 100000 in
set_option maxHeartbeats 3200000 in
theorem aln (a b : DecD) (w : World) (ha : VDec a) (hb : VDec b) (h0 : 0 < a.digits.size) (h1 : 0 < b.digits.size) :
    Calls Tryz.prog 69 #[.agg #[.bool a.neg, .string a.digits, .int .i64 a.exp], .agg #[.bool b.neg, .string b.digits, .int .i64 b.exp]] w (AlnR (alignD a b).1 (alignD a b).2 w) := by
  obtain ⟨mn, hmn⟩ : ∃ mn, mn = min a.exp b.exp := ⟨_, rfl⟩
  obtain ⟨ka, hka⟩ : ∃ k, k = (a.exp - mn).toNat := ⟨_, rfl⟩
  obtain ⟨kb, hkb⟩ : ∃ k, k = (b.exp - mn).toNat := ⟨_, rfl⟩
  have hEa : -400 ≤ a.exp ∧ a.exp ≤ 400 ∧ a.digits.size ≤ 120 := by rcases ha with h | h <;> omega
  have hEb : -400 ≤ b.exp ∧ b.exp ≤ 400 ∧ b.digits.size ≤ 120 := by rcases hb with h | h <;> omega
  have k1 : (ka : Int) ≤ a.exp - mn := by omega
  have k2 : a.exp - mn ≤ (ka : Int) := by omega
  have k3 : (kb : Int) ≤ b.exp - mn := by omega
  have k4 : b.exp - mn ≤ (kb : Int) := by omega
  have k5 : ka ≤ 800 := by omega
  have k6 : kb ≤ 800 := by omega
  obtain ⟨e1, e2, e3⟩ := hEa
  obtain ⟨e4, e5, e6⟩ := hEb
  have z1 : (zerosS ka).size ≤ 800 := by rw [zerosS_size]; exact k5
  have z2 : (zerosS kb).size ≤ 800 := by rw [zerosS_size]; exact k6
  have HMN := Lib.hid hmn
  have HQ := Lib.hid (show (alignD a b).1 = a.digits ++ zerosS ka ∧ (alignD a b).2 = b.digits ++ zerosS kb by
    unfold alignD padS
    rw [if_neg (by omega), ← hmn, ← hka, ← hkb]
    exact ⟨rfl, rfl⟩)
  clear hmn hka hkb
  have hd : a.digits.toList.isEmpty = false := by rw [List.isEmpty_eq_false_iff]; exact ne_toList h0
  have hd2 : b.digits.toList.isEmpty = false := by rw [List.isEmpty_eq_false_iff]; exact ne_toList h1
  have HVA := Lib.hid ha
  have HVB := Lib.hid hb
  have HB := Lib.hid (show Below w.heap.size w ((w.alloc (.cells #[.bool a.neg, .string a.digits, .int .i64 a.exp] 23)).alloc (.cells #[.bool b.neg, .string b.digits, .int .i64 b.exp] 23)) from belowThen (belowBox w _) (belowBox _ _))
  have RA0 := Lib.hid (show RowT 23 ((w.alloc (.cells #[.bool a.neg, .string a.digits, .int .i64 a.exp] 23)).alloc (.cells #[.bool b.neg, .string b.digits, .int .i64 b.exp] 23)) w.heap.size [.bool a.neg, .string a.digits, .int .i64 a.exp] from (RowT.new w 23 _).alloc _)
  have RB0 := Lib.hid (show RowT 23 ((w.alloc (.cells #[.bool a.neg, .string a.digits, .int .i64 a.exp] 23)).alloc (.cells #[.bool b.neg, .string b.digits, .int .i64 b.exp] 23)) (w.heap.size + 1) [.bool b.neg, .string b.digits, .int .i64 b.exp] from by
    have := RowT.new (w.alloc (.cells #[.bool a.neg, .string a.digits, .int .i64 a.exp] 23)) 23 [.bool b.neg, .string b.digits, .int .i64 b.exp]
    rw [World.size_alloc] at this
    exact this)
  clear ha hb
  go_enter Tryz.func69, Tryz.ntmps69
  go_wp2_with fail
  refine (dec_valid a _ HVA.out).mono ?_
  rintro e w1 ⟨rfl, hb⟩
  have HB1 := Lib.hid (belowThen HB.out hb)
  have RA1 := Lib.hid (RA0.out.then hb)
  have RB1 := Lib.hid (RB0.out.then hb)
  have d0 := RB1.out.cell (j := 0) (v := .bool b.neg) rfl
  have d1 := RB1.out.cell (j := 1) (v := .string b.digits) rfl
  have d2 := RB1.out.cell (j := 2) (v := .int .i64 b.exp) rfl
  clear hb RA0 RB0
  go_wp2_with fail
  refine (dec_valid b _ HVB.out).mono ?_
  rintro e W ⟨rfl, hb⟩
  have HB2 := Lib.hid (belowThen HB1.out hb)
  have RA := Lib.hid (RA1.out.then hb)
  have RB := Lib.hid (RB1.out.then hb)
  clear hb RA1 RB1 d0 d1 d2
  have c1 := RA.out.cell (j := 1) (v := .string a.digits) rfl
  have c2 := RA.out.cell (j := 2) (v := .int .i64 a.exp) rfl
  have d1 := RB.out.cell (j := 1) (v := .string b.digits) rfl
  have d2 := RB.out.cell (j := 2) (v := .int .i64 b.exp) rfl
  go_wp2_with fail
  rw [← HMN.out]
  refine wp_region_held_drew (S := fun u => Below W.heap.size W u) (by kernel_rfl) (drewU W) (fun hHeld => ?_)
  refine' wpAnyH_takeU (i := 0) (v := .pointer (some ⟨w.heap.size, 1, none⟩)) _ rfl rfl (by kernel_rfl) (by kernel_rfl) (by kernel_rfl) (fun _ _ _ h => h) (.inl ⟨by rfl, fun u hu => (by go_simp)⟩) hHeld ?_
  simp only [List.set_cons_succ, List.set_cons_zero]
  refine' wpAnyH_takeU (i := 1) (v := .string a.digits) _ rfl rfl (by kernel_rfl) (by kernel_rfl) (by kernel_rfl) (fun _ _ _ h => h) (.inl ⟨by rfl, fun u hu => (by have hc := (RA.out.then hu).cell (j := 1) (v := .string a.digits) rfl; go_simp)⟩) hHeld ?_
  simp only [List.set_cons_succ, List.set_cons_zero]
  refine' wpAnyH_takeU (i := 2) (v := .pointer (some ⟨w.heap.size, 2, none⟩)) _ rfl rfl (by kernel_rfl) (by kernel_rfl) (by kernel_rfl) (fun _ _ _ h => h) (.inl ⟨by rfl, fun u hu => (by go_simp)⟩) hHeld ?_
  simp only [List.set_cons_succ, List.set_cons_zero]
  refine' wpAnyH_takeU (i := 3) (v := .int .i64 a.exp) _ rfl rfl (by kernel_rfl) (by kernel_rfl) (by kernel_rfl) (fun _ _ _ h => h) (.inl ⟨by rfl, fun u hu => (by have hc := (RA.out.then hu).cell (j := 2) (v := .int .i64 a.exp) rfl; go_simp)⟩) hHeld ?_
  simp only [List.set_cons_succ, List.set_cons_zero]
  refine' wpAnyH_takeU (i := 4) (v := .int .i64 mn) _ rfl rfl (by kernel_rfl) (by kernel_rfl) (by kernel_rfl) (fun _ _ _ h => h) (.inl ⟨by rfl, fun u hu => (by go_simp)⟩) hHeld ?_
  simp only [List.set_cons_succ, List.set_cons_zero]
  refine' wpAnyH_takeU (i := 5) (v := .int .i64 ((ka : Nat) : Int)) _ rfl rfl (by kernel_rfl) (by kernel_rfl) (by kernel_rfl) (fun _ _ _ h => h) (.inl ⟨by rfl, fun u hu => (by go_simp; all_goals first | omega | (rw [IntKind.wrap_i64]; omega))⟩) hHeld ?_
  simp only [List.set_cons_succ, List.set_cons_zero]
  refine' wpAnyH_takeU (i := 8) (v := .pointer (some ⟨(w.heap.size + 1), 1, none⟩)) _ rfl rfl (by kernel_rfl) (by kernel_rfl) (by kernel_rfl) (fun _ _ _ h => h) (.inl ⟨by rfl, fun u hu => (by go_simp)⟩) hHeld ?_
  simp only [List.set_cons_succ, List.set_cons_zero]
  refine' wpAnyH_takeU (i := 9) (v := .string b.digits) _ rfl rfl (by kernel_rfl) (by kernel_rfl) (by kernel_rfl) (fun _ _ _ h => h) (.inl ⟨by rfl, fun u hu => (by have hc := (RB.out.then hu).cell (j := 1) (v := .string b.digits) rfl; go_simp)⟩) hHeld ?_
  simp only [List.set_cons_succ, List.set_cons_zero]
  refine' wpAnyH_takeU (i := 10) (v := .pointer (some ⟨(w.heap.size + 1), 2, none⟩)) _ rfl rfl (by kernel_rfl) (by kernel_rfl) (by kernel_rfl) (fun _ _ _ h => h) (.inl ⟨by rfl, fun u hu => (by go_simp)⟩) hHeld ?_
  simp only [List.set_cons_succ, List.set_cons_zero]
  refine' wpAnyH_takeU (i := 11) (v := .int .i64 b.exp) _ rfl rfl (by kernel_rfl) (by kernel_rfl) (by kernel_rfl) (fun _ _ _ h => h) (.inl ⟨by rfl, fun u hu => (by have hc := (RB.out.then hu).cell (j := 2) (v := .int .i64 b.exp) rfl; go_simp)⟩) hHeld ?_
  simp only [List.set_cons_succ, List.set_cons_zero]
  refine' wpAnyH_takeU (i := 12) (v := .int .i64 mn) _ rfl rfl (by kernel_rfl) (by kernel_rfl) (by kernel_rfl) (fun _ _ _ h => h) (.inl ⟨by rfl, fun u hu => (by go_simp)⟩) hHeld ?_
  simp only [List.set_cons_succ, List.set_cons_zero]
  refine' wpAnyH_takeU (i := 13) (v := .int .i64 ((kb : Nat) : Int)) _ rfl rfl (by kernel_rfl) (by kernel_rfl) (by kernel_rfl) (fun _ _ _ h => h) (.inl ⟨by rfl, fun u hu => (by go_simp; all_goals first | omega | (rw [IntKind.wrap_i64]; omega))⟩) hHeld ?_
  simp only [List.set_cons_succ, List.set_cons_zero]
  refine' wpAnyH_takeU (i := 16) (v := .int .i64 mn) _ rfl rfl (by kernel_rfl) (by kernel_rfl) (by kernel_rfl) (fun _ _ _ h => h) (.inl ⟨by rfl, fun u hu => (by go_simp)⟩) hHeld ?_
  simp only [List.set_cons_succ, List.set_cons_zero]
  refine wpAnyH_ready (rs := [6]) (by kernel_rfl) (by simp) ?_
  refine AllReadyH.cons rfl (fun K hK => ?_) AllReadyH.nil
  rw [if_pos (by rfl)]
  go_simp
  refine (rep8_ex ka _ (by omega)).mono ?_
  rintro e u6 ⟨rfl, hbC⟩
  refine hK.out _ _ (hHeld.trans (hbC.mono hHeld.size)) (fun hHeldx => ?_)
  clear hK K hbC hHeld
  have hHeld := hHeldx
  clear hHeldx
  refine' wpAnyH_takeU (i := 7) (v := .string (a.digits ++ zerosS ka)) _ rfl rfl (by kernel_rfl) (by kernel_rfl) (by kernel_rfl) (fun _ _ _ h => h) (.inl ⟨by rfl, fun u hu => (by go_simp; all_goals omega)⟩) hHeld ?_
  simp only [List.set_cons_succ, List.set_cons_zero]
  refine wpAnyH_ready (rs := [14]) (by kernel_rfl) (by simp) ?_
  refine AllReadyH.cons rfl (fun K hK => ?_) AllReadyH.nil
  rw [if_pos (by rfl)]
  go_simp
  refine (rep8_ex kb _ (by omega)).mono ?_
  rintro e u14 ⟨rfl, hbC⟩
  refine hK.out _ _ (hHeld.trans (hbC.mono hHeld.size)) (fun hHeldx => ?_)
  clear hK K hbC hHeld
  have hHeld := hHeldx
  clear hHeldx
  refine' wpAnyH_takeU (i := 15) (v := .string (b.digits ++ zerosS kb)) _ rfl rfl (by kernel_rfl) (by kernel_rfl) (by kernel_rfl) (fun _ _ _ h => h) (.inl ⟨by rfl, fun u hu => (by go_simp; all_goals omega)⟩) hHeld ?_
  simp only [List.set_cons_succ, List.set_cons_zero]
  refine' wpAnyH_takeU (i := 17) (v := .string (a.digits ++ zerosS ka)) _ rfl rfl (by kernel_rfl) (by kernel_rfl) (by kernel_rfl) (fun _ _ _ h => h) (.inl ⟨by rfl, fun u hu => (by go_simp)⟩) hHeld ?_
  simp only [List.set_cons_succ, List.set_cons_zero]
  refine' wpAnyH_takeU (i := 18) (v := .string (b.digits ++ zerosS kb)) _ rfl rfl (by kernel_rfl) (by kernel_rfl) (by kernel_rfl) (fun _ _ _ h => h) (.inl ⟨by rfl, fun u hu => (by go_simp)⟩) hHeld ?_
  simp only [List.set_cons_succ, List.set_cons_zero]
  refine' wpAnyH_takeU (i := 19) (v := .int .i64 mn) _ rfl rfl (by kernel_rfl) (by kernel_rfl) (by kernel_rfl) (fun _ _ _ h => h) (.inl ⟨by rfl, fun u hu => (by go_simp)⟩) hHeld ?_
  simp only [List.set_cons_succ, List.set_cons_zero]
  refine wpAnyH_done (by kernel_rfl) ?_ _
  have HW := Lib.hid hHeld
  clear hHeld
  go_wp2_with fail
  refine bodyPost_ret (results_tmp3' rfl _ _ _) rfl ?_
  exact ⟨⟨_, by rw [HQ.out.1, HQ.out.2]; rfl⟩, HB2.out.trans (HW.out.mono HB2.out.size)⟩
end Go.Proofs.YtmjfggadehkbjaaGreatDoor

/- decimal.size, decimal.Cmp. -/
namespace Go.Proofs.YtmjfggadehkbjaaGreatDoor
open Go.RowKit

theorem align_p (a b : DecD) (w : World) (ha : VDec a) (hb : VDec b) :
    Calls Tryz.prog 69 #[.agg #[.bool a.neg, .string a.digits, .int .i64 a.exp], .agg #[.bool b.neg, .string b.digits, .int .i64 b.exp]] w (AlnR (alignD a b).1 (alignD a b).2 w) := by
  by_cases h0 : a.digits.size = 0
  · exact aln0a a b w ha hb h0
  · by_cases h1 : b.digits.size = 0
    · exact aln0b a b w ha hb h1 (by omega)
    · exact aln a b w ha hb (by omega) (by omega)
set_option maxRecDepth 100000 in
theorem dsize_p (a b : DecD) (w : World) (ha : VDec a) (hb : VDec b) :
    Calls Tryz.prog 145 #[.agg #[.bool a.neg, .string a.digits, .int .i64 a.exp], .agg #[.bool b.neg, .string b.digits, .int .i64 b.exp]] w (CmpE (magC a b) w) := by
  have HVA := Lib.hid ha
  have HVB := Lib.hid hb
  have HB := Lib.hid (show Below w.heap.size w ((w.alloc (.cells #[.bool a.neg, .string a.digits, .int .i64 a.exp] 23)).alloc (.cells #[.bool b.neg, .string b.digits, .int .i64 b.exp] 23)) from belowThen (belowBox w _) (belowBox _ _))
  clear ha hb
  obtain ⟨x, hx⟩ : ∃ x, x = (alignD a b).1 := ⟨_, rfl⟩
  obtain ⟨y, hy⟩ : ∃ y, y = (alignD a b).2 := ⟨_, rfl⟩
  obtain ⟨r, hr⟩ : ∃ r, r = magC a b := ⟨_, rfl⟩
  rw [← hr]
  have HR := Lib.hid (show r = lenC x y by rw [hr, hx, hy]; rfl)
  have HX := Lib.hid hx
  have HY := Lib.hid hy
  clear hr hx hy
  go_enter Tryz.func145, Tryz.ntmps145
  go_wp2_with fail
  refine (align_p a b _ HVA.out HVB.out).mono ?_
  rintro e w1 ⟨⟨z, rfl⟩, hb⟩
  rw [← HX.out, ← HY.out]
  have HB1 := Lib.hid (belowThen HB.out hb)
  clear hb
  go_wp2_with (go_at_call 108; refine (dcmp_p _ _ _).mono ?_; rintro e w2 ⟨rfl, rfl⟩; rw [← HR.out])
  go_ret
  exact ⟨rfl, HB1.out⟩
end Go.Proofs.YtmjfggadehkbjaaGreatDoor

/- decimal.Cmp. -/
namespace Go.Proofs.YtmjfggadehkbjaaGreatDoor
open Go.RowKit

set_option maxRecDepth 100000 in
set_option maxHeartbeats 1600000 in
theorem deccmp_p (a b : DecD) (w : World) (ha : VDec a) (hb : VDec b) :
    Calls Tryz.prog 90 #[.agg #[.bool a.neg, .string a.digits, .int .i64 a.exp], .agg #[.bool b.neg, .string b.digits, .int .i64 b.exp]] w (CmpE (decC a b) w) := by
  obtain ⟨na, da, ea⟩ := a
  obtain ⟨nb, db, eb⟩ := b
  have HVA := Lib.hid ha
  have HVB := Lib.hid hb
  clear ha hb
  have D1 := Lib.hid (fun w => dsize_p ⟨na, da, ea⟩ ⟨nb, db, eb⟩ w HVA.out HVB.out)
  have D2 := Lib.hid (fun w => dsize_p ⟨nb, db, eb⟩ ⟨na, da, ea⟩ w HVB.out HVA.out)
  obtain ⟨r, hr⟩ : ∃ r, r = decC ⟨na, da, ea⟩ ⟨nb, db, eb⟩ := ⟨_, rfl⟩
  rw [← hr]
  have HR := Lib.hid hr
  clear hr HVA HVB
  have HB := Lib.hid (show Below w.heap.size w ((w.alloc (.cells #[.bool na, .string da, .int .i64 ea] 23)).alloc (.cells #[.bool nb, .string db, .int .i64 eb] 23)) from belowThen (belowBox w _) (belowBox _ _))
  dsimp only
  cases na <;> cases nb
  · go_enter Tryz.func90, Tryz.ntmps90
    go_wp2_with fail
    refine (D1.out _).mono ?_
    rintro e w1 ⟨rfl, hb⟩
    have HB1 := Lib.hid (belowThen HB.out hb)
    clear hb
    rw [show magC ⟨false, da, ea⟩ ⟨false, db, eb⟩ = r from HR.out.symm]
    go_wp2_with fail
    go_ret
    exact ⟨rfl, HB1.out⟩
  · go_enter Tryz.func90, Tryz.ntmps90
    go_wp2_with fail
    go_ret
    exact ⟨by rw [HR.out]; rfl, HB.out⟩
  · go_enter Tryz.func90, Tryz.ntmps90
    go_wp2_with fail
    go_ret
    exact ⟨by rw [HR.out]; rfl, HB.out⟩
  · go_enter Tryz.func90, Tryz.ntmps90
    go_wp2_with fail
    refine (D2.out _).mono ?_
    rintro e w1 ⟨rfl, hb⟩
    have HB1 := Lib.hid (belowThen HB.out hb)
    clear hb
    rw [show magC ⟨true, db, eb⟩ ⟨true, da, ea⟩ = r from HR.out.symm]
    go_wp2_with fail
    go_ret
    exact ⟨rfl, HB1.out⟩
end Go.Proofs.YtmjfggadehkbjaaGreatDoor
