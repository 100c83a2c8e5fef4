/- datakitref07.lists, datakitref07.maps. -/
import Derived.Test.YtmjfggadehkbjaaGreatDoorOrc07
namespace Go.Proofs.YtmjfggadehkbjaaGreatDoor
open Go.RowKit

/-- The reference's comparison of values of at most so many levels is what it should be. -/
def OrdR (m : Nat) : Prop := ∀ (v u : ValD) (w : World) (B N : Nat) (cs ds : List Value), okC m v → okC m u → N ≤ 4294967296 → B ≤ w.heap.size → ValD.At w B N v cs → ValD.At w B N u ds →
    Calls Tryz.prog 16 #[.agg cs.toArray, .agg ds.toArray] w (CmpE (cmpD m v u) w)
theorem text_e (a b : ByteArray) (w : World) : Calls Tryz.prog 45 #[.string a, .string b] w (CmpE (cmpS a b) w) := by
  refine (text_r a b w).mono ?_
  rintro e w' ⟨h, rfl⟩
  exact ⟨h, Below.refl _ _⟩

set_option maxRecDepth 100000 in
set_option maxHeartbeats 3200000 in
/-- Lists of values. -/
theorem lists_r {m : Nat} (IH : OrdR m) (l1 l2 : List ValD) (ya yb : Option Addr) (yc yd B N : Nat) (w : World) (hN : N ≤ 4294967296) (hn1 : l1.length ≤ N) (hn2 : l2.length ≤ N) (hB : B ≤ w.heap.size) (ho1 : ∀ x ∈ l1, okC m x) (ho2 : ∀ x ∈ l2, okC m x) (ha : ValsAt w B N l1 ya) (hb : ValsAt w B N l2 yb) :
    Calls Tryz.prog 46 #[.slice ya l1.length yc, .slice yb l2.length yd] w (CmpE (lisC (cmpD m) l1 l2) w) := by
  have HA := Lib.hid ha
  have HB0 := Lib.hid hb
  obtain ⟨F, hF⟩ : ∃ F, F = ((cmpD m)) := ⟨_, rfl⟩
  rw [← hF]
  have HFF := Lib.hid hF
  have HI := Lib.hid IH
  have HO1 := Lib.hid ho1
  have HO2 := Lib.hid ho2
  clear IH ho1 ho2
  clear ha hb hF
  go_enter Tryz.func46, Tryz.ntmps46
  go_wp2_with fail
  go_loopw [5] (fun x wr => ∃ k : Nat, x = .int .i64 k ∧ k ≤ l1.length ∧ k ≤ l2.length ∧ Hid (Below w.heap.size w wr) ∧ Hid (lisC F l1 l2 = lisC F (l1.drop k) (l2.drop k))) (fun x _ => l1.length - (intOf x).toNat)
  case atStart => exact ⟨0, rfl, Nat.zero_le _, Nat.zero_le _, Lib.hid (Below.refl _ _), Lib.hid rfl⟩
  case round =>
    obtain ⟨k, rfl, hkl, hkm, HB, HE⟩ := hrel
    by_cases h1 : k < l1.length
    · by_cases h2 : k < l2.length
      · have HD := Lib.hid (show lisC F l1 l2 = if F l1[k] l2[k] = 0 then lisC F (l1.drop (k + 1)) (l2.drop (k + 1)) else F l1[k] l2[k] by rw [HE.out, lisC_drop F h1 h2])
        obtain ⟨s, hs⟩ : ∃ s, s = F l1[k] l2[k] := ⟨_, rfl⟩
        rw [← hs] at HD
        rw [HFF.out] at hs
        obtain ⟨b0, o0, rfl, hb0, hg0⟩ := HA.out.get (by intro h; rw [h] at h1; simp at h1)
        obtain ⟨c0, hc0, hv0⟩ := hg0 k h1
        have C0 := Lib.hid (show ∀ u : World, Below w.heap.size w u → u.rangeAt b0 (o0 + k * 13) c0 from fun u hu => (hc0.below (hu.mono hB) hb0).range)
        have hz0 := Lib.hid (show (Tryz.prog.info? 30).map (·.size) = some c0.length by rw [hv0.len]; exact sizeV)
        have V0 := Lib.hid hv0
        clear hg0 hc0 hv0
        obtain ⟨b1, o1, rfl, hb1, hg1⟩ := HB0.out.get (by intro h; rw [h] at h2; simp at h2)
        obtain ⟨c1, hc1, hv1⟩ := hg1 k h2
        have C1 := Lib.hid (show ∀ u : World, Below w.heap.size w u → u.rangeAt b1 (o1 + k * 13) c1 from fun u hu => (hc1.below (hu.mono hB) hb1).range)
        have hz1 := Lib.hid (show (Tryz.prog.info? 30).map (·.size) = some c1.length by rw [hv1.len]; exact sizeV)
        have V1 := Lib.hid hv1
        clear hg1 hc1 hv1
        have HS := Lib.hid hs
        clear hs
        go_wp2_with fail
        refine wp_region_held_drew (S := fun u => Below w.heap.size w u) (by kernel_rfl) (HB.out.trans (drewB _)) (fun hHeld => ?_)
        refine' wpAnyH_takeU (i := 0) (v := .slice (some ⟨b0, o0, none⟩) l1.length yc) _ rfl rfl (by kernel_rfl) (by kernel_rfl) (by kernel_rfl) (fun _ _ _ h => h) (.inl ⟨by rfl, fun u hu => (by go_simp)⟩) hHeld ?_
        simp only [List.set_cons_succ, List.set_cons_zero]
        refine' wpAnyH_takeU (i := 1) (v := .int .i64 ((k : Nat) : Int)) _ rfl rfl (by kernel_rfl) (by kernel_rfl) (by kernel_rfl) (fun _ _ _ h => h) (.inl ⟨by rfl, fun u hu => (by go_simp)⟩) hHeld ?_
        simp only [List.set_cons_succ, List.set_cons_zero]
        refine' wpAnyH_takeU (i := 2) (v := .pointer (some ⟨b0, o0 + k * 13, none⟩)) _ rfl rfl (by kernel_rfl) (by kernel_rfl) (by kernel_rfl) (fun _ _ _ h => h) (.inl ⟨by rfl, fun u hu => (by go_simp; all_goals first | omega | (rw [IntKind.wrap_i64]; omega) | (rw [if_pos (by omega)]; congr; all_goals omega))⟩) hHeld ?_
        simp only [List.set_cons_succ, List.set_cons_zero]
        refine' wpAnyH_takeU (i := 3) (v := .agg c0.toArray) _ rfl rfl (by kernel_rfl) (by kernel_rfl) (by kernel_rfl) (fun _ _ _ h => h) (yieldsIf_load_mid (by kernel_rfl) 30 _ rfl b0 (o0 + k * 13) rfl c0 _ (fun u hu => C0.out u hu) Tryz.underlying30 rfl hz0.out) hHeld ?_
        simp only [List.set_cons_succ, List.set_cons_zero]
        refine' wpAnyH_takeU (i := 4) (v := .slice (some ⟨b1, o1, none⟩) l2.length yd) _ rfl rfl (by kernel_rfl) (by kernel_rfl) (by kernel_rfl) (fun _ _ _ h => h) (.inl ⟨by rfl, fun u hu => (by go_simp)⟩) hHeld ?_
        simp only [List.set_cons_succ, List.set_cons_zero]
        refine' wpAnyH_takeU (i := 5) (v := .int .i64 ((k : Nat) : Int)) _ rfl rfl (by kernel_rfl) (by kernel_rfl) (by kernel_rfl) (fun _ _ _ h => h) (.inl ⟨by rfl, fun u hu => (by go_simp)⟩) hHeld ?_
        simp only [List.set_cons_succ, List.set_cons_zero]
        refine' wpAnyH_takeU (i := 6) (v := .pointer (some ⟨b1, o1 + k * 13, none⟩)) _ rfl rfl (by kernel_rfl) (by kernel_rfl) (by kernel_rfl) (fun _ _ _ h => h) (.inl ⟨by rfl, fun u hu => (by go_simp; all_goals first | omega | (rw [IntKind.wrap_i64]; omega) | (rw [if_pos (by omega)]; congr; all_goals omega))⟩) hHeld ?_
        simp only [List.set_cons_succ, List.set_cons_zero]
        refine' wpAnyH_takeU (i := 7) (v := .agg c1.toArray) _ rfl rfl (by kernel_rfl) (by kernel_rfl) (by kernel_rfl) (fun _ _ _ h => h) (yieldsIf_load_mid (by kernel_rfl) 30 _ rfl b1 (o1 + k * 13) rfl c1 _ (fun u hu => C1.out u hu) Tryz.underlying30 rfl hz1.out) hHeld ?_
        simp only [List.set_cons_succ, List.set_cons_zero]
        refine wpAnyH_ready (rs := [8]) (by kernel_rfl) (by simp) ?_
        refine AllReadyH.cons rfl (fun K hK => ?_) AllReadyH.nil
        rw [if_pos (by rfl)]
        go_simp
        refine (HI.out l1[k] l2[k] _ B N c0 c1 (HO1.out _ (List.getElem_mem h1)) (HO2.out _ (List.getElem_mem h2)) hN (Nat.le_trans hB hHeld.size) (V0.out.below (hHeld.mono hB)) (V1.out.below (hHeld.mono hB))).mono ?_
        rintro e uC ⟨rfl, hbC⟩
        rw [← HS.out]
        refine hK.out _ _ (belowThen hHeld hbC) (fun hHeld1 => ?_)
        clear hK K hbC hHeld
        refine wpAnyH_ready (rs := [9]) (by kernel_rfl) (by simp) ?_
        refine AllReadyH.cons rfl (fun K hK => ?_) AllReadyH.nil
        rw [if_pos (by rfl)]
        go_simp
        refine hK.out _ _ hHeld1 (fun hHeldx => ?_)
        clear hK K hHeldx
        refine wpAnyH_done (by kernel_rfl) ?_ _
        have HB1 := Lib.hid hHeld1
        clear hHeld1
        by_cases h3 : s = 0
        · have h4 := Lib.hid h3
          have h5 : (s != 0) = false := by simp [h3]
          clear h3
          go_wp2_with fail
          go_roundw
          case rel => exact ⟨k + 1, by go_num, by omega, by omega, HB1, Lib.hid (by rw [HD.out, if_pos h4.out])⟩
          case measure => simp [intOf]; omega
        · have h4 := Lib.hid h3
          have h5 : (s != 0) = true := by simp [h3]
          clear h3
          go_wp2_with fail
          go_ret
          exact ⟨by rw [HD.out, if_neg h4.out]; try rfl, HB1.out⟩
      · have HD := Lib.hid (show lisC F l1 l2 = sgn ((l1.length : Int) - l2.length) 0 by rw [HE.out, lisC_end F hkl hkm (.inr (by omega)), sgn_sub])
        obtain ⟨s, hs⟩ : ∃ s, s = sgn ((l1.length : Int) - l2.length) 0 := ⟨_, rfl⟩
        have HS := Lib.hid hs
        clear hs
        go_wp2_with (go_at_call 41; refine (sign_r _ _).mono ?_; rintro e w1 ⟨rfl, rfl⟩; rw [← HS.out])
        go_ret
        exact ⟨by rw [HD.out, ← HS.out]; try rfl, HB.out⟩
    · have HD := Lib.hid (show lisC F l1 l2 = sgn ((l1.length : Int) - l2.length) 0 by rw [HE.out, lisC_end F hkl hkm (.inl (by omega)), sgn_sub])
      obtain ⟨s, hs⟩ : ∃ s, s = sgn ((l1.length : Int) - l2.length) 0 := ⟨_, rfl⟩
      have HS := Lib.hid hs
      clear hs
      go_wp2_with (go_at_call 41; refine (sign_r _ _).mono ?_; rintro e w1 ⟨rfl, rfl⟩; rw [← HS.out])
      go_ret
      exact ⟨by rw [HD.out, ← HS.out]; try rfl, HB.out⟩
set_option maxRecDepth 100000 in
set_option maxHeartbeats 6400000 in
theorem maps_r {m : Nat} (IH : OrdR m) (x y : List (ByteArray × ValD)) (pa pb : Option Addr) (pc pd B0 N : Nat) (w0 : World) (hN : N ≤ 4294967296) (hx : x.length ≤ N) (hy : y.length ≤ N) (hB0 : B0 ≤ w0.heap.size) (ho1 : ∀ z ∈ x, okC m z.2) (ho2 : ∀ z ∈ y, okC m z.2) (ha : FieldsAt w0 B0 N x pa) (hb : FieldsAt w0 B0 N y pb) :
    Calls Tryz.prog 47 #[.slice pa x.length pc, .slice pb y.length pd] w0 (CmpE (mapC (cmpD m) x y) w0) := by
  obtain ⟨l1, hl1⟩ : ∃ l, l = sortF x := ⟨_, rfl⟩
  obtain ⟨l2, hl2⟩ : ∃ l, l = sortF y := ⟨_, rfl⟩
  have hn1 : l1.length ≤ N := by rw [hl1, sortF_len]; exact hx
  have hn2 : l2.length ≤ N := by rw [hl2, sortF_len]; exact hy
  have HO1 := Lib.hid (show ∀ z ∈ l1, okC m z.2 from fun z hz => ho1 z ((sortF_perm _).mem_iff.1 (hl1 ▸ hz)))
  have HO2 := Lib.hid (show ∀ z ∈ l2, okC m z.2 from fun z hz => ho2 z ((sortF_perm _).mem_iff.1 (hl2 ▸ hz)))
  have HLX := Lib.hid hl1
  have HLY := Lib.hid hl2
  obtain ⟨r, hr⟩ : ∃ r, r = mapC (cmpD m) x y := ⟨_, rfl⟩
  rw [← hr]
  have HR := Lib.hid (hr.trans (mapC_rows m _ _))
  rw [← hl1, ← hl2] at HR
  have HA0 := Lib.hid ha
  have HB00 := Lib.hid hb
  have HI := Lib.hid IH
  have hxl := Lib.hid (show x.length = l1.length by rw [hl1, sortF_len])
  have hyl := Lib.hid (show y.length = l2.length by rw [hl2, sortF_len])
  clear hr hl1 hl2 ha hb IH ho1 ho2
  go_enter Tryz.func47, Tryz.ntmps47
  go_wp2_with fail
  refine (fields_r x pa pc B0 N w0 hN hB0 hx HA0.out).mono ?_
  rintro e wF ⟨ya, yc, rfl, hbF, hfF⟩
  have HBF := Lib.hid hbF
  have HFF := Lib.hid hfF
  clear hbF hfF
  rw [hxl.out]
  go_wp2_with fail
  refine (fields_r y pb pd B0 N wF hN (Nat.le_trans hB0 HBF.out.size) hy (HB00.out.below (HBF.out.mono hB0))).mono ?_
  rintro e w ⟨yb, yd, rfl, hbG, hfG⟩
  rw [hyl.out]
  have HA1 := Lib.hid ((HFF.out.below hbG).mono hbG.size)
  rw [← HLX.out] at HA1
  have HB1' := Lib.hid hfG
  rw [← HLY.out] at HB1'
  have HBW := Lib.hid (belowThen HBF.out hbG)
  clear hbG hfG HFF HBF HA0 HB00
  obtain ⟨B, hBe⟩ : ∃ B, B = w.heap.size := ⟨_, rfl⟩
  rw [← hBe] at HA1 HB1'
  have hB : B ≤ w.heap.size := by omega
  clear hBe
  have HA := HA1
  have HB0 := HB1'
  clear HA1 HB1'
  go_wp2_with fail
  go_loopw [7] (fun x wr => ∃ k : Nat, x = .int .i64 k ∧ k ≤ l1.length ∧ k ≤ l2.length ∧ Hid (Below w.heap.size w wr) ∧ Hid (lisC keyF l1 l2 = lisC keyF (l1.drop k) (l2.drop k))) (fun x _ => l1.length - (intOf x).toNat)
  case atStart => exact ⟨0, rfl, Nat.zero_le _, Nat.zero_le _, Lib.hid (Below.refl _ _), Lib.hid rfl⟩
  case round =>
    obtain ⟨k, rfl, hkl, hkm, HB, HE⟩ := hrel
    by_cases h12 : k < l1.length ∧ k < l2.length
    · obtain ⟨h1, h2⟩ := h12
      have HD := Lib.hid (show lisC keyF l1 l2 = if keyF l1[k] l2[k] = 0 then lisC keyF (l1.drop (k + 1)) (l2.drop (k + 1)) else keyF l1[k] l2[k] by rw [HE.out, lisC_drop keyF h1 h2])
      obtain ⟨s, hs⟩ : ∃ s, s = keyF l1[k] l2[k] := ⟨_, rfl⟩
      rw [← hs] at HD
      obtain ⟨b0, o0, rfl, hb0, hg0⟩ := HA.out.get (by intro h; rw [h] at h1; simp at h1)
      obtain ⟨c0, _, hc0, hv0⟩ := hg0 k h1
      obtain ⟨key0, hk0⟩ : ∃ key, key = l1[k].1 := ⟨_, rfl⟩
      rw [← hk0] at hc0
      have K0 := Lib.hid hk0
      have C0 := Lib.hid (show ∀ u : World, Below w.heap.size w u → u.cell? ⟨b0, o0 + k * 14, none⟩ = some (.string key0) from fun u hu => (hc0.below (hu.mono hB) hb0).get0' rfl)
      clear hg0 hc0 hv0 hk0
      obtain ⟨b1, o1, rfl, hb1, hg1⟩ := HB0.out.get (by intro h; rw [h] at h2; simp at h2)
      obtain ⟨c1, _, hc1, hv1⟩ := hg1 k h2
      obtain ⟨key1, hk1⟩ : ∃ key, key = l2[k].1 := ⟨_, rfl⟩
      rw [← hk1] at hc1
      have K1 := Lib.hid hk1
      have C1 := Lib.hid (show ∀ u : World, Below w.heap.size w u → u.cell? ⟨b1, o1 + k * 14, none⟩ = some (.string key1) from fun u hu => (hc1.below (hu.mono hB) hb1).get0' rfl)
      clear hg1 hc1 hv1 hk1
      have HS := Lib.hid (show s = cmpS key0 key1 by rw [hs, K0.out, K1.out]; rfl)
      clear hs
      go_wp2_with fail
      refine wp_region_held_drew (S := fun u => Below w.heap.size w u) (by kernel_rfl) (HB.out.trans (drewB _)) (fun hHeld => ?_)
      refine' wpAnyH_takeU (i := 0) (v := .slice (some ⟨b0, o0, none⟩) l1.length yc) _ rfl rfl (by kernel_rfl) (by kernel_rfl) (by kernel_rfl) (fun _ _ _ h => h) (.inl ⟨by rfl, fun u hu => (by go_simp)⟩) hHeld ?_
      simp only [List.set_cons_succ, List.set_cons_zero]
      refine' wpAnyH_takeU (i := 1) (v := .int .i64 ((k : Nat) : Int)) _ rfl rfl (by kernel_rfl) (by kernel_rfl) (by kernel_rfl) (fun _ _ _ h => h) (.inl ⟨by rfl, fun u hu => (by go_simp)⟩) hHeld ?_
      simp only [List.set_cons_succ, List.set_cons_zero]
      refine' wpAnyH_takeU (i := 2) (v := .pointer (some ⟨b0, o0 + k * 14, none⟩)) _ rfl rfl (by kernel_rfl) (by kernel_rfl) (by kernel_rfl) (fun _ _ _ h => h) (.inl ⟨by rfl, fun u hu => (by go_simp; all_goals first | omega | (rw [IntKind.wrap_i64]; omega) | (rw [if_pos (by omega)]; congr; all_goals omega))⟩) hHeld ?_
      simp only [List.set_cons_succ, List.set_cons_zero]
      refine' wpAnyH_takeU (i := 3) (v := .pointer (some ⟨b0, o0 + k * 14, none⟩)) _ rfl rfl (by kernel_rfl) (by kernel_rfl) (by kernel_rfl) (fun _ _ _ h => h) (.inl ⟨by rfl, fun u hu => (by go_simp)⟩) hHeld ?_
      simp only [List.set_cons_succ, List.set_cons_zero]
      refine' wpAnyH_takeU (i := 4) (v := .string key0) _ rfl rfl (by kernel_rfl) (by kernel_rfl) (by kernel_rfl) (fun _ _ _ h => h) (.inl ⟨by rfl, fun u hu => (by have hc := C0.out u hu; go_simp)⟩) hHeld ?_
      simp only [List.set_cons_succ, List.set_cons_zero]
      refine' wpAnyH_takeU (i := 5) (v := .slice (some ⟨b1, o1, none⟩) l2.length yd) _ rfl rfl (by kernel_rfl) (by kernel_rfl) (by kernel_rfl) (fun _ _ _ h => h) (.inl ⟨by rfl, fun u hu => (by go_simp)⟩) hHeld ?_
      simp only [List.set_cons_succ, List.set_cons_zero]
      refine' wpAnyH_takeU (i := 6) (v := .int .i64 ((k : Nat) : Int)) _ rfl rfl (by kernel_rfl) (by kernel_rfl) (by kernel_rfl) (fun _ _ _ h => h) (.inl ⟨by rfl, fun u hu => (by go_simp)⟩) hHeld ?_
      simp only [List.set_cons_succ, List.set_cons_zero]
      refine' wpAnyH_takeU (i := 7) (v := .pointer (some ⟨b1, o1 + k * 14, none⟩)) _ rfl rfl (by kernel_rfl) (by kernel_rfl) (by kernel_rfl) (fun _ _ _ h => h) (.inl ⟨by rfl, fun u hu => (by go_simp; all_goals first | omega | (rw [IntKind.wrap_i64]; omega) | (rw [if_pos (by omega)]; congr; all_goals omega))⟩) hHeld ?_
      simp only [List.set_cons_succ, List.set_cons_zero]
      refine' wpAnyH_takeU (i := 8) (v := .pointer (some ⟨b1, o1 + k * 14, none⟩)) _ rfl rfl (by kernel_rfl) (by kernel_rfl) (by kernel_rfl) (fun _ _ _ h => h) (.inl ⟨by rfl, fun u hu => (by go_simp)⟩) hHeld ?_
      simp only [List.set_cons_succ, List.set_cons_zero]
      refine' wpAnyH_takeU (i := 9) (v := .string key1) _ rfl rfl (by kernel_rfl) (by kernel_rfl) (by kernel_rfl) (fun _ _ _ h => h) (.inl ⟨by rfl, fun u hu => (by have hc := C1.out u hu; go_simp)⟩) hHeld ?_
      simp only [List.set_cons_succ, List.set_cons_zero]
      refine wpAnyH_ready (rs := [10]) (by kernel_rfl) (by simp) ?_
      refine AllReadyH.cons rfl (fun K hK => ?_) AllReadyH.nil
      rw [if_pos (by rfl)]
      go_simp
      refine (text_e key0 key1 _).mono ?_
      rintro e uC ⟨rfl, hbC⟩
      rw [← HS.out]
      refine hK.out _ _ (belowThen hHeld hbC) (fun hHeld1 => ?_)
      clear hK K hbC hHeld
      refine wpAnyH_ready (rs := [11]) (by kernel_rfl) (by simp) ?_
      refine AllReadyH.cons rfl (fun K hK => ?_) AllReadyH.nil
      rw [if_pos (by rfl)]
      go_simp
      refine hK.out _ _ hHeld1 (fun hHeldx => ?_)
      clear hK K hHeldx
      refine wpAnyH_done (by kernel_rfl) ?_ _
      have HB1 := Lib.hid hHeld1
      clear hHeld1
      by_cases h3 : s = 0
      · have h4 := Lib.hid h3
        have h5 : (s != 0) = false := by simp [h3]
        clear h3
        go_wp2_with fail
        go_roundw
        case rel => exact ⟨k + 1, by go_num, by omega, by omega, HB1, Lib.hid (by rw [HD.out, if_pos h4.out])⟩
        case measure => simp [intOf]; omega
      · have h4 := Lib.hid (show r = s by rw [HR.out, HD.out, if_neg h3, if_neg h3])
        have h5 : (s != 0) = true := by simp [h3]
        clear h3
        go_wp2_with fail
        go_ret
        exact ⟨by rw [h4.out]; try rfl, belowThen HBW.out HB1.out⟩
    · have HC := Lib.hid (show lisC keyF l1 l2 = sgn l1.length l2.length by rw [HE.out, lisC_end keyF hkl hkm (by omega)])
      have h12' : ¬ k < l1.length ∨ (k < l1.length ∧ ¬ k < l2.length) := by omega
      clear h12
      by_cases hq : l1.length = l2.length
      · have HQ := Lib.hid (show r = lisC (valF m) l1 l2 by rw [HR.out, HC.out, if_pos (sgn_0.2 (by omega))])
        have hq2 : ((l1.length : Int) != (l2.length : Int)) = false := by simp [hq]
        have HQL := Lib.hid hq
        have h1 : ¬ k < l1.length := by omega
        have hk1 : k = l1.length := by omega
        clear h12' hq
        obtain ⟨F, hF⟩ : ∃ F, F = valF m := ⟨_, rfl⟩
        rw [← hF] at HQ
        have HF2 := Lib.hid hF
        clear hF
        subst hk1
        go_wp2_with fail
        go_loopw [9] (fun x wr => ∃ k : Nat, x = .int .i64 k ∧ k ≤ l1.length ∧ Hid (Below w.heap.size w wr) ∧ Hid (r = lisC F (l1.drop k) (l2.drop k))) (fun x _ => l1.length - (intOf x).toNat)
        case atStart => exact ⟨0, rfl, Nat.zero_le _, HB, Lib.hid HQ.out⟩
        case round =>
          clear HB HQ HE hkl hkm h1 hq2 HC
          obtain ⟨k, rfl, hkl, HB, HE⟩ := hrel
          by_cases h1 : k < l1.length
          · have h2 : k < l2.length := by have := HQL.out; omega
            have HD := Lib.hid (show r = if F l1[k] l2[k] = 0 then lisC F (l1.drop (k + 1)) (l2.drop (k + 1)) else F l1[k] l2[k] by rw [HE.out, lisC_drop F h1 h2])
            obtain ⟨s, hs⟩ : ∃ s, s = F l1[k] l2[k] := ⟨_, rfl⟩
            rw [← hs] at HD
            rw [HF2.out] at hs
            obtain ⟨b0, o0, rfl, hb0, hg0⟩ := HA.out.get (by intro h; rw [h] at h1; simp at h1)
            obtain ⟨c0, _, hc0, hv0⟩ := hg0 k h1
            have C0 := Lib.hid (show ∀ u : World, Below w.heap.size w u → u.rangeAt b0 (o0 + k * 14 + 1) c0 from fun u hu => (hc0.below (hu.mono hB) hb0).tail.range)
            have hz0 := Lib.hid (show (Tryz.prog.info? 30).map (·.size) = some c0.length by rw [hv0.len]; exact sizeV)
            have V0 := Lib.hid hv0
            clear hg0 hc0 hv0
            obtain ⟨b1, o1, rfl, hb1, hg1⟩ := HB0.out.get (by intro h; rw [h] at h2; simp at h2)
            obtain ⟨c1, _, hc1, hv1⟩ := hg1 k h2
            have C1 := Lib.hid (show ∀ u : World, Below w.heap.size w u → u.rangeAt b1 (o1 + k * 14 + 1) c1 from fun u hu => (hc1.below (hu.mono hB) hb1).tail.range)
            have hz1 := Lib.hid (show (Tryz.prog.info? 30).map (·.size) = some c1.length by rw [hv1.len]; exact sizeV)
            have V1 := Lib.hid hv1
            clear hg1 hc1 hv1
            have HS := Lib.hid (show s = cmpD m l1[k].2 l2[k].2 from hs)
            clear hs
            go_wp2_with fail
            refine wp_region_held_drew (S := fun u => Below w.heap.size w u) (by kernel_rfl) (HB.out.trans (drewB _)) (fun hHeld => ?_)
            refine' wpAnyH_takeU (i := 0) (v := .slice (some ⟨b0, o0, none⟩) l1.length yc) _ rfl rfl (by kernel_rfl) (by kernel_rfl) (by kernel_rfl) (fun _ _ _ h => h) (.inl ⟨by rfl, fun u hu => (by go_simp)⟩) hHeld ?_
            simp only [List.set_cons_succ, List.set_cons_zero]
            refine' wpAnyH_takeU (i := 1) (v := .int .i64 ((k : Nat) : Int)) _ rfl rfl (by kernel_rfl) (by kernel_rfl) (by kernel_rfl) (fun _ _ _ h => h) (.inl ⟨by rfl, fun u hu => (by go_simp)⟩) hHeld ?_
            simp only [List.set_cons_succ, List.set_cons_zero]
            refine' wpAnyH_takeU (i := 2) (v := .pointer (some ⟨b0, o0 + k * 14, none⟩)) _ rfl rfl (by kernel_rfl) (by kernel_rfl) (by kernel_rfl) (fun _ _ _ h => h) (.inl ⟨by rfl, fun u hu => (by go_simp; all_goals first | omega | (rw [IntKind.wrap_i64]; omega) | (rw [if_pos (by omega)]; congr; all_goals omega))⟩) hHeld ?_
            simp only [List.set_cons_succ, List.set_cons_zero]
            refine' wpAnyH_takeU (i := 3) (v := .pointer (some ⟨b0, o0 + k * 14 + 1, none⟩)) _ rfl rfl (by kernel_rfl) (by kernel_rfl) (by kernel_rfl) (fun _ _ _ h => h) (.inl ⟨by rfl, fun u hu => (by go_simp)⟩) hHeld ?_
            simp only [List.set_cons_succ, List.set_cons_zero]
            refine' wpAnyH_takeU (i := 4) (v := .agg c0.toArray) _ rfl rfl (by kernel_rfl) (by kernel_rfl) (by kernel_rfl) (fun _ _ _ h => h) (yieldsIf_load_mid (by kernel_rfl) 30 _ rfl b0 (o0 + k * 14 + 1) rfl c0 _ (fun u hu => C0.out u hu) Tryz.underlying30 rfl hz0.out) hHeld ?_
            simp only [List.set_cons_succ, List.set_cons_zero]
            refine' wpAnyH_takeU (i := 5) (v := .slice (some ⟨b1, o1, none⟩) l2.length yd) _ rfl rfl (by kernel_rfl) (by kernel_rfl) (by kernel_rfl) (fun _ _ _ h => h) (.inl ⟨by rfl, fun u hu => (by go_simp)⟩) hHeld ?_
            simp only [List.set_cons_succ, List.set_cons_zero]
            refine' wpAnyH_takeU (i := 6) (v := .int .i64 ((k : Nat) : Int)) _ rfl rfl (by kernel_rfl) (by kernel_rfl) (by kernel_rfl) (fun _ _ _ h => h) (.inl ⟨by rfl, fun u hu => (by go_simp)⟩) hHeld ?_
            simp only [List.set_cons_succ, List.set_cons_zero]
            refine' wpAnyH_takeU (i := 7) (v := .pointer (some ⟨b1, o1 + k * 14, none⟩)) _ rfl rfl (by kernel_rfl) (by kernel_rfl) (by kernel_rfl) (fun _ _ _ h => h) (.inl ⟨by rfl, fun u hu => (by go_simp; all_goals first | omega | (rw [IntKind.wrap_i64]; omega) | (rw [if_pos (by omega)]; congr; all_goals omega))⟩) hHeld ?_
            simp only [List.set_cons_succ, List.set_cons_zero]
            refine' wpAnyH_takeU (i := 8) (v := .pointer (some ⟨b1, o1 + k * 14 + 1, none⟩)) _ rfl rfl (by kernel_rfl) (by kernel_rfl) (by kernel_rfl) (fun _ _ _ h => h) (.inl ⟨by rfl, fun u hu => (by go_simp)⟩) hHeld ?_
            simp only [List.set_cons_succ, List.set_cons_zero]
            refine' wpAnyH_takeU (i := 9) (v := .agg c1.toArray) _ rfl rfl (by kernel_rfl) (by kernel_rfl) (by kernel_rfl) (fun _ _ _ h => h) (yieldsIf_load_mid (by kernel_rfl) 30 _ rfl b1 (o1 + k * 14 + 1) rfl c1 _ (fun u hu => C1.out u hu) Tryz.underlying30 rfl hz1.out) hHeld ?_
            simp only [List.set_cons_succ, List.set_cons_zero]
            refine wpAnyH_ready (rs := [10]) (by kernel_rfl) (by simp) ?_
            refine AllReadyH.cons rfl (fun K hK => ?_) AllReadyH.nil
            rw [if_pos (by rfl)]
            go_simp
            refine (HI.out l1[k].2 l2[k].2 _ B N c0 c1 (HO1.out _ (List.getElem_mem h1)) (HO2.out _ (List.getElem_mem h2)) hN (Nat.le_trans hB hHeld.size) (V0.out.below (hHeld.mono hB)) (V1.out.below (hHeld.mono hB))).mono ?_
            rintro e uC ⟨rfl, hbC⟩
            rw [← HS.out]
            refine hK.out _ _ (belowThen hHeld hbC) (fun hHeld1 => ?_)
            clear hK K hbC hHeld
            refine wpAnyH_ready (rs := [11]) (by kernel_rfl) (by simp) ?_
            refine AllReadyH.cons rfl (fun K hK => ?_) AllReadyH.nil
            rw [if_pos (by rfl)]
            go_simp
            refine hK.out _ _ hHeld1 (fun hHeldx => ?_)
            clear hK K hHeldx
            refine wpAnyH_done (by kernel_rfl) ?_ _
            have HB1 := Lib.hid hHeld1
            clear hHeld1
            by_cases h3 : s = 0
            · have h4 := Lib.hid h3
              have h5 : (s != 0) = false := by simp [h3]
              clear h3
              go_wp2_with fail
              go_roundw
              case rel => exact ⟨k + 1, by go_num, by omega, HB1, Lib.hid (by rw [HD.out, if_pos h4.out])⟩
              case measure => simp [intOf]; omega
            · have h4 := Lib.hid (show r = s by rw [HD.out, if_neg h3])
              have h5 : (s != 0) = true := by simp [h3]
              clear h3
              go_wp2_with fail
              go_ret
              exact ⟨by rw [h4.out]; try rfl, belowThen HBW.out HB1.out⟩
          · have HZ := Lib.hid (show r = 0 by rw [HE.out, lisC_end F hkl (by have := HQL.out; omega) (.inl (by omega)), HQL.out, sgn_self])
            go_wp2_with fail
            go_ret
            exact ⟨by rw [HZ.out]; try rfl, belowThen HBW.out HB.out⟩
      · have hq2 : ((l1.length : Int) != (l2.length : Int)) = true := by simp; omega
        have HQ := Lib.hid (show r = sgn ((l1.length : Int) - l2.length) 0 by rw [HR.out, HC.out, sgn_sub, if_neg (fun h => hq (by have := sgn_0.1 h; omega))])
        clear hq
        rcases h12' with h1 | ⟨h1, h2⟩
        all_goals
          go_wp2_with (go_at_call 41; refine (sign_r _ _).mono ?_; rintro e w1 ⟨rfl, rfl⟩; rw [← HQ.out])
          go_ret
          exact ⟨rfl, belowThen HBW.out HB.out⟩
end Go.Proofs.YtmjfggadehkbjaaGreatDoor
