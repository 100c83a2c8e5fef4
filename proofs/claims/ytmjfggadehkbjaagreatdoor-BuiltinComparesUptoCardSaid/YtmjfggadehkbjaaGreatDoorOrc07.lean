/- value.compare with the comparisons that value.order hands to it. -/
import Derived.Test.YtmjfggadehkbjaaGreatDoorXJ
namespace Go.Proofs.YtmjfggadehkbjaaGreatDoor
open Go.RowKit

theorem drewB (w : World) {B : Nat} : Below B w w.drew := ⟨rfl, rfl, rfl, Nat.le_refl _, fun _ _ => rfl⟩
/-- Two boxes of values. -/
structure Duo (w W : World) (cs ds : List Value) : Prop where
  below : Below w.heap.size w W
  one : CellsAt W w.heap.size 0 cs
  two : CellsAt W (w.heap.size + 1) 0 ds
  size : w.heap.size + 2 ≤ W.heap.size
theorem Duo.later {w W W' : World} {cs ds : List Value} (h : Duo w W cs ds) (hb : Below W.heap.size W W') : Duo w W' cs ds :=
  ⟨belowThen h.below hb, h.one.below hb (by have := h.size; omega), h.two.below hb (by have := h.size; omega), Nat.le_trans h.size hb.size⟩
theorem duo_boxes (w : World) (cs ds : List Value) (t : TypeId) : Duo w ((w.alloc (.cells cs.toArray t)).alloc (.cells ds.toArray t)) cs ds := by
  have hs1 : (w.alloc (.cells cs.toArray t)).heap.size = w.heap.size + 1 := by rw [World.size_alloc]
  have hs2 : ((w.alloc (.cells cs.toArray t)).alloc (.cells ds.toArray t)).heap.size = w.heap.size + 2 := by rw [World.size_alloc, World.size_alloc]
  refine ⟨belowThen (belowBox w _) (belowBox _ _), (box_at w cs t).then (belowBox _ _) (by omega), ?_, by omega⟩
  have := box_at (w.alloc (.cells cs.toArray t)) ds t
  rw [hs1] at this
  exact this

def keyF (x y : ByteArray × ValD) : Int := cmpS x.1 y.1
def valF (m : Nat) (x y : ByteArray × ValD) : Int := cmpD m x.2 y.2
theorem lisC_map {α β : Type} (f : β → β → Int) (g : α → β) : ∀ (l m : List α), lisC f (l.map g) (m.map g) = lisC (fun x y => f (g x) (g y)) l m
  | [], [] => rfl
  | [], y :: s => by simp [lisC]
  | x :: r, [] => by simp [lisC]
  | x :: r, y :: s => by
    have ih := lisC_map f g r s
    simp only [List.map_cons, lisC]
    rw [ih]
theorem mapC_rows (m : Nat) (a b : List (ByteArray × ValD)) : mapC (cmpD m) a b = if lisC keyF (sortF a) (sortF b) = 0 then lisC (valF m) (sortF a) (sortF b) else lisC keyF (sortF a) (sortF b) := by
  unfold mapC keysF valsF
  rw [lisC_map, lisC_map]
  rfl
/-- The comparison of values of at most so many levels is what it should be. -/
def OrdP (m : Nat) : Prop := ∀ (v u : ValD) (w : World) (B N : Nat) (cs ds : List Value) (left : Int), (m : Int) ≤ left → left ≤ 65536 → okC m v → okC m u → N ≤ 4294967296 → B ≤ w.heap.size → ValD.At w B N v cs → ValD.At w B N u ds →
    Calls Tryz.prog 40 #[.agg cs.toArray, .agg ds.toArray, .int .i64 left] w (CmpE (cmpD m v u) w)
set_option maxRecDepth 100000 in
theorem ord1 {m : Nat} (IH : OrdP m) (v u : ValD) (w : World) (B N pb : Nat) (cs ds : List Value) (left : Int) (hm : (m : Int) + 1 ≤ left) (hleft : left ≤ 65536) (h1 : okC m v) (h2 : okC m u) (hN : N ≤ 4294967296) (hB : B ≤ w.heap.size)
    (hv : ValD.At w B N v cs) (hu : ValD.At w B N u ds) (hc : CellI w pb left) :
    Calls Tryz.prog 95 #[.agg cs.toArray, .agg ds.toArray, .pointer (some ⟨pb, 0, none⟩)] w (CmpE (cmpD m v u) w) := by
  have D0 := Lib.hid (duo_boxes w cs ds 30)
  have hl1 := Lib.hid (show (Tryz.prog.info? 30).map (·.size) = some cs.length by rw [hv.len]; exact sizeV)
  have hl2 := Lib.hid (show (Tryz.prog.info? 30).map (·.size) = some ds.length by rw [hu.len]; exact sizeV)
  have cI := (hc.below D0.out.below).cell
  have HR := Lib.hid (IH v u _ B N cs ds (left - 1) (by omega) (by omega) h1 h2 hN (Nat.le_trans hB D0.out.below.size) (hv.below (D0.out.below.mono hB)) (hu.below (D0.out.below.mono hB)))
  clear hv hu hc IH h1 h2
  go_enter Tryz.func95, Tryz.ntmps95
  go_wp2_with (first
    | ((with_reducible show wpList _ _ _ (⟨some 6, _, _, _, _, _⟩ :: _) _ _); refine wpList_load_mid rfl 30 _ rfl w.heap.size 0 rfl cs _ D0.out.one.range Tryz.underlying30 rfl hl1.out ?_)
    | ((with_reducible show wpList _ _ _ (⟨some 7, _, _, _, _, _⟩ :: _) _ _); refine wpList_load_mid rfl 30 _ rfl (w.heap.size + 1) 0 rfl ds _ D0.out.two.range Tryz.underlying30 rfl hl2.out ?_))
  refine HR.out.mono ?_
  rintro e w1 ⟨rfl, hb⟩
  have HB1 := Lib.hid (belowThen D0.out.below hb)
  clear hb
  go_wp2_with fail
  go_ret
  exact ⟨rfl, HB1.out⟩
set_option maxRecDepth 100000 in
theorem ord3 {m : Nat} (IH : OrdP m) (v u : ValD) (w : World) (B N pb : Nat) (cs ds xs ys : List Value) (k1 k2 : ByteArray) (left : Int) (hcs : cs = .string k1 :: xs) (hds : ds = .string k2 :: ys) (hm : (m : Int) + 1 ≤ left) (hleft : left ≤ 65536) (h1 : okC m v) (h2 : okC m u) (hN : N ≤ 4294967296) (hB : B ≤ w.heap.size)
    (hv : ValD.At w B N v xs) (hu : ValD.At w B N u ys) (hc : CellI w pb left) :
    Calls Tryz.prog 99 #[.agg cs.toArray, .agg ds.toArray, .pointer (some ⟨pb, 0, none⟩)] w (CmpE (cmpD m v u) w) := by
  have D0 := Lib.hid (duo_boxes w cs ds 77)
  have hl1 := Lib.hid (show (Tryz.prog.info? 30).map (·.size) = some xs.length by rw [hv.len]; exact sizeV)
  have hl2 := Lib.hid (show (Tryz.prog.info? 30).map (·.size) = some ys.length by rw [hu.len]; exact sizeV)
  have cI := (hc.below D0.out.below).cell
  have R1 := Lib.hid (show CellsAt ((w.alloc (.cells cs.toArray 77)).alloc (.cells ds.toArray 77)) w.heap.size 1 xs from by have := D0.out.one; rw [hcs] at this ⊢; exact this.tail)
  have R2 := Lib.hid (show CellsAt ((w.alloc (.cells cs.toArray 77)).alloc (.cells ds.toArray 77)) (w.heap.size + 1) 1 ys from by have := D0.out.two; rw [hds] at this ⊢; exact this.tail)
  have HR := Lib.hid (IH v u _ B N xs ys (left - 1) (by omega) (by omega) h1 h2 hN (Nat.le_trans hB D0.out.below.size) (hv.below (D0.out.below.mono hB)) (hu.below (D0.out.below.mono hB)))
  clear hv hu hc IH h1 h2 hcs hds
  go_enter Tryz.func99, Tryz.ntmps99
  go_wp2_with (first
    | ((with_reducible show wpList _ _ _ (⟨some 7, _, _, _, _, _⟩ :: _) _ _); refine wpList_load_mid rfl 30 _ rfl w.heap.size 1 rfl xs _ R1.out.range Tryz.underlying30 rfl hl1.out ?_)
    | ((with_reducible show wpList _ _ _ (⟨some 9, _, _, _, _, _⟩ :: _) _ _); refine wpList_load_mid rfl 30 _ rfl (w.heap.size + 1) 1 rfl ys _ R2.out.range Tryz.underlying30 rfl hl2.out ?_))
  refine HR.out.mono ?_
  rintro e w1 ⟨rfl, hb⟩
  have HB1 := Lib.hid (belowThen D0.out.below hb)
  clear hb
  go_wp2_with fail
  go_ret
  exact ⟨rfl, HB1.out⟩
theorem key2_ex (r s : List Value) (kr ks : ByteArray) (hr : r[0]? = some (.string kr)) (hs : s[0]? = some (.string ks)) (w : World) :
    Calls Tryz.prog 98 #[.agg r.toArray, .agg s.toArray] w (CmpE (cmpS kr ks) w) := by
  have D0 := Lib.hid (duo_boxes w r s 77)
  have c1 := D0.out.one.get0 hr
  have c2 := D0.out.two.get0 hs
  clear hr hs
  go_enter Tryz.func98, Tryz.ntmps98
  go_wp2_with (go_at_call 92; refine (Tryz.strings_Compare _ _ _).mono ?_; rintro e w1 ⟨rfl, rfl⟩)
  go_ret
  exact ⟨by rw [← cmpB_S]; rfl, D0.out.below⟩

set_option maxRecDepth 100000 in
set_option maxHeartbeats 3200000 in
/-- Lists of values. -/
theorem cmpv_p {m : Nat} (IH : OrdP m) (l1 l2 : List ValD) (ya yb : Option Addr) (yc yd B N pb : Nat) (left : Int) (w : World) (hN : N ≤ 4294967296) (hn1 : l1.length ≤ N) (hB : B ≤ w.heap.size) (hm : (m : Int) + 1 ≤ left) (hleft : left ≤ 65536) (ho1 : ∀ x ∈ l1, okC m x) (ho2 : ∀ x ∈ l2, okC m x) (hc : CellI w pb left) (ha : ValsAt w B N l1 ya) (hb : ValsAt w B N l2 yb) :
    Calls Tryz.prog 94 #[.slice ya l1.length yc, .slice yb l2.length yd, .func (.func 95) #[] #[.pointer (some ⟨pb, 0, none⟩)]] w (CmpE (lisC (cmpD m) l1 l2) w) := by
  have HA := Lib.hid ha
  have HB0 := Lib.hid hb
  obtain ⟨F, hF⟩ : ∃ F, F = ((cmpD m)) := ⟨_, rfl⟩
  rw [← hF]
  have HFF := Lib.hid hF
  have HI := Lib.hid IH
  have HO1 := Lib.hid ho1
  have HO2 := Lib.hid ho2
  have HC := Lib.hid hc
  clear IH ho1 ho2 hc
  clear ha hb hF
  go_enter Tryz.func94, Tryz.ntmps94
  go_wp2_with fail
  go_loopw [7] (fun x wr => ∃ k : Nat, x = .int .i64 k ∧ k ≤ l1.length ∧ k ≤ l2.length ∧ Hid (Below w.heap.size w wr) ∧ Hid (lisC F l1 l2 = lisC F (l1.drop k) (l2.drop k))) (fun x _ => l1.length - (intOf x).toNat)
  case atStart => exact ⟨0, rfl, Nat.zero_le _, Nat.zero_le _, Lib.hid (Below.refl _ _), Lib.hid rfl⟩
  case round =>
    obtain ⟨k, rfl, hkl, hkm, HB, HE⟩ := hrel
    by_cases h1 : k < l1.length
    · by_cases h2 : k < l2.length
      · have HD := Lib.hid (show lisC F l1 l2 = if F l1[k] l2[k] = 0 then lisC F (l1.drop (k + 1)) (l2.drop (k + 1)) else F l1[k] l2[k] by rw [HE.out, lisC_drop F h1 h2])
        obtain ⟨s, hs⟩ : ∃ s, s = F l1[k] l2[k] := ⟨_, rfl⟩
        rw [← hs] at HD
        rw [HFF.out] at hs
        obtain ⟨b0, o0, rfl, hb0, hg0⟩ := HA.out.get (by intro h; rw [h] at h1; simp at h1)
        obtain ⟨c0, hc0, hv0⟩ := hg0 k h1
        have C0 := Lib.hid (show ∀ u : World, Below w.heap.size w u → u.rangeAt b0 (o0 + k * 13) c0 from fun u hu => (hc0.below (hu.mono hB) hb0).range)
        have hz0 := Lib.hid (show (Tryz.prog.info? 30).map (·.size) = some c0.length by rw [hv0.len]; exact sizeV)
        have V0 := Lib.hid hv0
        clear hg0 hc0 hv0
        obtain ⟨b1, o1, rfl, hb1, hg1⟩ := HB0.out.get (by intro h; rw [h] at h2; simp at h2)
        obtain ⟨c1, hc1, hv1⟩ := hg1 k h2
        have C1 := Lib.hid (show ∀ u : World, Below w.heap.size w u → u.rangeAt b1 (o1 + k * 13) c1 from fun u hu => (hc1.below (hu.mono hB) hb1).range)
        have hz1 := Lib.hid (show (Tryz.prog.info? 30).map (·.size) = some c1.length by rw [hv1.len]; exact sizeV)
        have V1 := Lib.hid hv1
        clear hg1 hc1 hv1
        have HS := Lib.hid hs
        clear hs
        go_wp2_with fail
        refine wp_region_held_drew (S := fun u => Below w.heap.size w u) (by kernel_rfl) (HB.out.trans (drewB _)) (fun hHeld => ?_)
        refine' wpAnyH_takeU (i := 0) (v := .func (.func 95) #[] #[.pointer (some ⟨pb, 0, none⟩)]) _ rfl rfl (by kernel_rfl) (by kernel_rfl) (by kernel_rfl) (fun _ _ _ h => h) (.inl ⟨by rfl, fun u hu => (by go_simp)⟩) hHeld ?_
        simp only [List.set_cons_succ, List.set_cons_zero]
        refine' wpAnyH_takeU (i := 1) (v := .slice (some ⟨b0, o0, none⟩) l1.length yc) _ rfl rfl (by kernel_rfl) (by kernel_rfl) (by kernel_rfl) (fun _ _ _ h => h) (.inl ⟨by rfl, fun u hu => (by go_simp)⟩) hHeld ?_
        simp only [List.set_cons_succ, List.set_cons_zero]
        refine' wpAnyH_takeU (i := 2) (v := .int .i64 ((k : Nat) : Int)) _ rfl rfl (by kernel_rfl) (by kernel_rfl) (by kernel_rfl) (fun _ _ _ h => h) (.inl ⟨by rfl, fun u hu => (by go_simp)⟩) hHeld ?_
        simp only [List.set_cons_succ, List.set_cons_zero]
        refine' wpAnyH_takeU (i := 3) (v := .pointer (some ⟨b0, o0 + k * 13, none⟩)) _ rfl rfl (by kernel_rfl) (by kernel_rfl) (by kernel_rfl) (fun _ _ _ h => h) (.inl ⟨by rfl, fun u hu => (by go_simp; all_goals first | omega | (rw [IntKind.wrap_i64]; omega) | (rw [if_pos (by omega)]; congr; all_goals omega))⟩) hHeld ?_
        simp only [List.set_cons_succ, List.set_cons_zero]
        refine' wpAnyH_takeU (i := 4) (v := .agg c0.toArray) _ rfl rfl (by kernel_rfl) (by kernel_rfl) (by kernel_rfl) (fun _ _ _ h => h) (yieldsIf_load_mid (by kernel_rfl) 30 _ rfl b0 (o0 + k * 13) rfl c0 _ (fun u hu => C0.out u hu) Tryz.underlying30 rfl hz0.out) hHeld ?_
        simp only [List.set_cons_succ, List.set_cons_zero]
        refine' wpAnyH_takeU (i := 5) (v := .slice (some ⟨b1, o1, none⟩) l2.length yd) _ rfl rfl (by kernel_rfl) (by kernel_rfl) (by kernel_rfl) (fun _ _ _ h => h) (.inl ⟨by rfl, fun u hu => (by go_simp)⟩) hHeld ?_
        simp only [List.set_cons_succ, List.set_cons_zero]
        refine' wpAnyH_takeU (i := 6) (v := .int .i64 ((k : Nat) : Int)) _ rfl rfl (by kernel_rfl) (by kernel_rfl) (by kernel_rfl) (fun _ _ _ h => h) (.inl ⟨by rfl, fun u hu => (by go_simp)⟩) hHeld ?_
        simp only [List.set_cons_succ, List.set_cons_zero]
        refine' wpAnyH_takeU (i := 7) (v := .pointer (some ⟨b1, o1 + k * 13, none⟩)) _ rfl rfl (by kernel_rfl) (by kernel_rfl) (by kernel_rfl) (fun _ _ _ h => h) (.inl ⟨by rfl, fun u hu => (by go_simp; all_goals first | omega | (rw [IntKind.wrap_i64]; omega) | (rw [if_pos (by omega)]; congr; all_goals omega))⟩) hHeld ?_
        simp only [List.set_cons_succ, List.set_cons_zero]
        refine' wpAnyH_takeU (i := 8) (v := .agg c1.toArray) _ rfl rfl (by kernel_rfl) (by kernel_rfl) (by kernel_rfl) (fun _ _ _ h => h) (yieldsIf_load_mid (by kernel_rfl) 30 _ rfl b1 (o1 + k * 13) rfl c1 _ (fun u hu => C1.out u hu) Tryz.underlying30 rfl hz1.out) hHeld ?_
        simp only [List.set_cons_succ, List.set_cons_zero]
        refine wpAnyH_ready (rs := [9]) (by kernel_rfl) (by simp) ?_
        refine AllReadyH.cons rfl (fun K hK => ?_) AllReadyH.nil
        rw [if_pos (by rfl)]
        go_simp
        refine (ord1 HI.out l1[k] l2[k] _ B N pb c0 c1 left hm hleft (HO1.out _ (List.getElem_mem h1)) (HO2.out _ (List.getElem_mem h2)) hN (Nat.le_trans hB hHeld.size) (V0.out.below (hHeld.mono hB)) (V1.out.below (hHeld.mono hB)) (HC.out.below hHeld)).mono ?_
        rintro e uC ⟨rfl, hbC⟩
        rw [← HS.out]
        refine hK.out _ _ (belowThen hHeld hbC) (fun hHeld1 => ?_)
        clear hK K hbC hHeld
        refine wpAnyH_ready (rs := [10]) (by kernel_rfl) (by simp) ?_
        refine AllReadyH.cons rfl (fun K hK => ?_) AllReadyH.nil
        rw [if_pos (by rfl)]
        go_simp
        refine hK.out _ _ hHeld1 (fun hHeldx => ?_)
        clear hK K hHeldx
        refine wpAnyH_done (by kernel_rfl) ?_ _
        have HB1 := Lib.hid hHeld1
        clear hHeld1
        by_cases h3 : s = 0
        · have h4 := Lib.hid h3
          have h5 : (s != 0) = false := by simp [h3]
          clear h3
          go_wp2_with fail
          go_roundw
          case rel => exact ⟨k + 1, by go_num, by omega, by omega, HB1, Lib.hid (by rw [HD.out, if_pos h4.out])⟩
          case measure => simp [intOf]; omega
        · have h4 := Lib.hid h3
          have h5 : (s != 0) = true := by simp [h3]
          clear h3
          go_wp2_with fail
          go_ret
          exact ⟨by rw [HD.out, if_neg h4.out]; try rfl, HB1.out⟩
      · have HD := Lib.hid (show lisC F l1 l2 = sgn l1.length l2.length by rw [HE.out, lisC_end F hkl hkm (.inr (by omega))])
        obtain ⟨s, hs⟩ : ∃ s, s = sgn (l1.length : Int) l2.length := ⟨_, rfl⟩
        have HS := Lib.hid hs
        clear hs
        go_wp2_with (go_at_call 88; refine (cmp_i _ _ _).mono ?_; rintro e w1 ⟨rfl, rfl⟩; rw [← HS.out])
        go_ret
        exact ⟨by rw [HD.out, ← HS.out]; try rfl, HB.out⟩
    · have HD := Lib.hid (show lisC F l1 l2 = sgn l1.length l2.length by rw [HE.out, lisC_end F hkl hkm (.inl (by omega))])
      obtain ⟨s, hs⟩ : ∃ s, s = sgn (l1.length : Int) l2.length := ⟨_, rfl⟩
      have HS := Lib.hid hs
      clear hs
      go_wp2_with (go_at_call 88; refine (cmp_i _ _ _).mono ?_; rintro e w1 ⟨rfl, rfl⟩; rw [← HS.out])
      go_ret
      exact ⟨by rw [HD.out, ← HS.out]; try rfl, HB.out⟩
set_option maxRecDepth 100000 in
set_option maxHeartbeats 3200000 in
/-- The keys of fields. -/
theorem cmpk_p (l1 l2 : List (ByteArray × ValD)) (ya yb : Option Addr) (yc yd B N : Nat) (w : World) (hN : N ≤ 4294967296) (hn1 : l1.length ≤ N) (hB : B ≤ w.heap.size) (ha : FieldsAt w B N l1 ya) (hb : FieldsAt w B N l2 yb) :
    Calls Tryz.prog 97 #[.slice ya l1.length yc, .slice yb l2.length yd, .func (.func 98) #[] #[]] w (CmpE (lisC keyF l1 l2) w) := by
  have HA := Lib.hid ha
  have HB0 := Lib.hid hb
  obtain ⟨F, hF⟩ : ∃ F, F = (keyF) := ⟨_, rfl⟩
  rw [← hF]
  have HFF := Lib.hid hF
  clear ha hb hF
  go_enter Tryz.func97, Tryz.ntmps97
  go_wp2_with fail
  go_loopw [7] (fun x wr => ∃ k : Nat, x = .int .i64 k ∧ k ≤ l1.length ∧ k ≤ l2.length ∧ Hid (Below w.heap.size w wr) ∧ Hid (lisC F l1 l2 = lisC F (l1.drop k) (l2.drop k))) (fun x _ => l1.length - (intOf x).toNat)
  case atStart => exact ⟨0, rfl, Nat.zero_le _, Nat.zero_le _, Lib.hid (Below.refl _ _), Lib.hid rfl⟩
  case round =>
    obtain ⟨k, rfl, hkl, hkm, HB, HE⟩ := hrel
    by_cases h1 : k < l1.length
    · by_cases h2 : k < l2.length
      · have HD := Lib.hid (show lisC F l1 l2 = if F l1[k] l2[k] = 0 then lisC F (l1.drop (k + 1)) (l2.drop (k + 1)) else F l1[k] l2[k] by rw [HE.out, lisC_drop F h1 h2])
        obtain ⟨s, hs⟩ : ∃ s, s = F l1[k] l2[k] := ⟨_, rfl⟩
        rw [← hs] at HD
        rw [HFF.out] at hs
        obtain ⟨b0, o0, rfl, hb0, hg0⟩ := HA.out.get (by intro h; rw [h] at h1; simp at h1)
        obtain ⟨d0, _, hc0, hv0⟩ := hg0 k h1
        obtain ⟨c0, hd0⟩ : ∃ c, c = Value.string l1[k].1 :: d0 := ⟨_, rfl⟩
        rw [← hd0] at hc0
        have D0 := Lib.hid hd0
        have C0 := Lib.hid (show ∀ u : World, Below w.heap.size w u → u.rangeAt b0 (o0 + k * 14) c0 from fun u hu => (hc0.below (hu.mono hB) hb0).range)
        have hz0 := Lib.hid (sizeFLD14 (show c0.length = 14 by rw [hd0, List.length_cons, hv0.len]))
        have V0 := Lib.hid hv0
        clear hg0 hc0 hv0 hd0
        obtain ⟨b1, o1, rfl, hb1, hg1⟩ := HB0.out.get (by intro h; rw [h] at h2; simp at h2)
        obtain ⟨d1, _, hc1, hv1⟩ := hg1 k h2
        obtain ⟨c1, hd1⟩ : ∃ c, c = Value.string l2[k].1 :: d1 := ⟨_, rfl⟩
        rw [← hd1] at hc1
        have D1 := Lib.hid hd1
        have C1 := Lib.hid (show ∀ u : World, Below w.heap.size w u → u.rangeAt b1 (o1 + k * 14) c1 from fun u hu => (hc1.below (hu.mono hB) hb1).range)
        have hz1 := Lib.hid (sizeFLD14 (show c1.length = 14 by rw [hd1, List.length_cons, hv1.len]))
        have V1 := Lib.hid hv1
        clear hg1 hc1 hv1 hd1
        have HS := Lib.hid (show s = cmpS l1[k].1 l2[k].1 from hs)
        clear hs
        go_wp2_with fail
        refine wp_region_held_drew (S := fun u => Below w.heap.size w u) (by kernel_rfl) (HB.out.trans (drewB _)) (fun hHeld => ?_)
        refine' wpAnyH_takeU (i := 0) (v := .func (.func 98) #[] #[]) _ rfl rfl (by kernel_rfl) (by kernel_rfl) (by kernel_rfl) (fun _ _ _ h => h) (.inl ⟨by rfl, fun u hu => (by go_simp)⟩) hHeld ?_
        simp only [List.set_cons_succ, List.set_cons_zero]
        refine' wpAnyH_takeU (i := 1) (v := .slice (some ⟨b0, o0, none⟩) l1.length yc) _ rfl rfl (by kernel_rfl) (by kernel_rfl) (by kernel_rfl) (fun _ _ _ h => h) (.inl ⟨by rfl, fun u hu => (by go_simp)⟩) hHeld ?_
        simp only [List.set_cons_succ, List.set_cons_zero]
        refine' wpAnyH_takeU (i := 2) (v := .int .i64 ((k : Nat) : Int)) _ rfl rfl (by kernel_rfl) (by kernel_rfl) (by kernel_rfl) (fun _ _ _ h => h) (.inl ⟨by rfl, fun u hu => (by go_simp)⟩) hHeld ?_
        simp only [List.set_cons_succ, List.set_cons_zero]
        refine' wpAnyH_takeU (i := 3) (v := .pointer (some ⟨b0, o0 + k * 14, none⟩)) _ rfl rfl (by kernel_rfl) (by kernel_rfl) (by kernel_rfl) (fun _ _ _ h => h) (.inl ⟨by rfl, fun u hu => (by go_simp; all_goals first | omega | (rw [IntKind.wrap_i64]; omega) | (rw [if_pos (by omega)]; congr; all_goals omega))⟩) hHeld ?_
        simp only [List.set_cons_succ, List.set_cons_zero]
        refine' wpAnyH_takeU (i := 4) (v := .agg c0.toArray) _ rfl rfl (by kernel_rfl) (by kernel_rfl) (by kernel_rfl) (fun _ _ _ h => h) (yieldsIf_load_mid (by kernel_rfl) 77 _ rfl b0 (o0 + k * 14) rfl c0 _ (fun u hu => C0.out u hu) Tryz.underlying77 rfl hz0.out) hHeld ?_
        simp only [List.set_cons_succ, List.set_cons_zero]
        refine' wpAnyH_takeU (i := 5) (v := .slice (some ⟨b1, o1, none⟩) l2.length yd) _ rfl rfl (by kernel_rfl) (by kernel_rfl) (by kernel_rfl) (fun _ _ _ h => h) (.inl ⟨by rfl, fun u hu => (by go_simp)⟩) hHeld ?_
        simp only [List.set_cons_succ, List.set_cons_zero]
        refine' wpAnyH_takeU (i := 6) (v := .int .i64 ((k : Nat) : Int)) _ rfl rfl (by kernel_rfl) (by kernel_rfl) (by kernel_rfl) (fun _ _ _ h => h) (.inl ⟨by rfl, fun u hu => (by go_simp)⟩) hHeld ?_
        simp only [List.set_cons_succ, List.set_cons_zero]
        refine' wpAnyH_takeU (i := 7) (v := .pointer (some ⟨b1, o1 + k * 14, none⟩)) _ rfl rfl (by kernel_rfl) (by kernel_rfl) (by kernel_rfl) (fun _ _ _ h => h) (.inl ⟨by rfl, fun u hu => (by go_simp; all_goals first | omega | (rw [IntKind.wrap_i64]; omega) | (rw [if_pos (by omega)]; congr; all_goals omega))⟩) hHeld ?_
        simp only [List.set_cons_succ, List.set_cons_zero]
        refine' wpAnyH_takeU (i := 8) (v := .agg c1.toArray) _ rfl rfl (by kernel_rfl) (by kernel_rfl) (by kernel_rfl) (fun _ _ _ h => h) (yieldsIf_load_mid (by kernel_rfl) 77 _ rfl b1 (o1 + k * 14) rfl c1 _ (fun u hu => C1.out u hu) Tryz.underlying77 rfl hz1.out) hHeld ?_
        simp only [List.set_cons_succ, List.set_cons_zero]
        refine wpAnyH_ready (rs := [9]) (by kernel_rfl) (by simp) ?_
        refine AllReadyH.cons rfl (fun K hK => ?_) AllReadyH.nil
        rw [if_pos (by rfl)]
        go_simp
        refine (key2_ex c0 c1 l1[k].1 l2[k].1 (by rw [D0.out]; rfl) (by rw [D1.out]; rfl) _).mono ?_
        rintro e uC ⟨rfl, hbC⟩
        rw [← HS.out]
        refine hK.out _ _ (belowThen hHeld hbC) (fun hHeld1 => ?_)
        clear hK K hbC hHeld
        refine wpAnyH_ready (rs := [10]) (by kernel_rfl) (by simp) ?_
        refine AllReadyH.cons rfl (fun K hK => ?_) AllReadyH.nil
        rw [if_pos (by rfl)]
        go_simp
        refine hK.out _ _ hHeld1 (fun hHeldx => ?_)
        clear hK K hHeldx
        refine wpAnyH_done (by kernel_rfl) ?_ _
        have HB1 := Lib.hid hHeld1
        clear hHeld1
        by_cases h3 : s = 0
        · have h4 := Lib.hid h3
          have h5 : (s != 0) = false := by simp [h3]
          clear h3
          go_wp2_with fail
          go_roundw
          case rel => exact ⟨k + 1, by go_num, by omega, by omega, HB1, Lib.hid (by rw [HD.out, if_pos h4.out])⟩
          case measure => simp [intOf]; omega
        · have h4 := Lib.hid h3
          have h5 : (s != 0) = true := by simp [h3]
          clear h3
          go_wp2_with fail
          go_ret
          exact ⟨by rw [HD.out, if_neg h4.out]; try rfl, HB1.out⟩
      · have HD := Lib.hid (show lisC F l1 l2 = sgn l1.length l2.length by rw [HE.out, lisC_end F hkl hkm (.inr (by omega))])
        obtain ⟨s, hs⟩ : ∃ s, s = sgn (l1.length : Int) l2.length := ⟨_, rfl⟩
        have HS := Lib.hid hs
        clear hs
        go_wp2_with (go_at_call 88; refine (cmp_i _ _ _).mono ?_; rintro e w1 ⟨rfl, rfl⟩; rw [← HS.out])
        go_ret
        exact ⟨by rw [HD.out, ← HS.out]; try rfl, HB.out⟩
    · have HD := Lib.hid (show lisC F l1 l2 = sgn l1.length l2.length by rw [HE.out, lisC_end F hkl hkm (.inl (by omega))])
      obtain ⟨s, hs⟩ : ∃ s, s = sgn (l1.length : Int) l2.length := ⟨_, rfl⟩
      have HS := Lib.hid hs
      clear hs
      go_wp2_with (go_at_call 88; refine (cmp_i _ _ _).mono ?_; rintro e w1 ⟨rfl, rfl⟩; rw [← HS.out])
      go_ret
      exact ⟨by rw [HD.out, ← HS.out]; try rfl, HB.out⟩
set_option maxRecDepth 100000 in
set_option maxHeartbeats 3200000 in
/-- The values of fields. -/
theorem cmpf_p {m : Nat} (IH : OrdP m) (l1 l2 : List (ByteArray × ValD)) (ya yb : Option Addr) (yc yd B N pb : Nat) (left : Int) (w : World) (hN : N ≤ 4294967296) (hn1 : l1.length ≤ N) (hB : B ≤ w.heap.size) (hm : (m : Int) + 1 ≤ left) (hleft : left ≤ 65536) (ho1 : ∀ x ∈ l1, okC m x.2) (ho2 : ∀ x ∈ l2, okC m x.2) (hc : CellI w pb left) (ha : FieldsAt w B N l1 ya) (hb : FieldsAt w B N l2 yb) :
    Calls Tryz.prog 97 #[.slice ya l1.length yc, .slice yb l2.length yd, .func (.func 99) #[] #[.pointer (some ⟨pb, 0, none⟩)]] w (CmpE (lisC (valF m) l1 l2) w) := by
  have HA := Lib.hid ha
  have HB0 := Lib.hid hb
  obtain ⟨F, hF⟩ : ∃ F, F = ((valF m)) := ⟨_, rfl⟩
  rw [← hF]
  have HFF := Lib.hid hF
  have HI := Lib.hid IH
  have HO1 := Lib.hid ho1
  have HO2 := Lib.hid ho2
  have HC := Lib.hid hc
  clear IH ho1 ho2 hc
  clear ha hb hF
  go_enter Tryz.func97, Tryz.ntmps97
  go_wp2_with fail
  go_loopw [7] (fun x wr => ∃ k : Nat, x = .int .i64 k ∧ k ≤ l1.length ∧ k ≤ l2.length ∧ Hid (Below w.heap.size w wr) ∧ Hid (lisC F l1 l2 = lisC F (l1.drop k) (l2.drop k))) (fun x _ => l1.length - (intOf x).toNat)
  case atStart => exact ⟨0, rfl, Nat.zero_le _, Nat.zero_le _, Lib.hid (Below.refl _ _), Lib.hid rfl⟩
  case round =>
    obtain ⟨k, rfl, hkl, hkm, HB, HE⟩ := hrel
    by_cases h1 : k < l1.length
    · by_cases h2 : k < l2.length
      · have HD := Lib.hid (show lisC F l1 l2 = if F l1[k] l2[k] = 0 then lisC F (l1.drop (k + 1)) (l2.drop (k + 1)) else F l1[k] l2[k] by rw [HE.out, lisC_drop F h1 h2])
        obtain ⟨s, hs⟩ : ∃ s, s = F l1[k] l2[k] := ⟨_, rfl⟩
        rw [← hs] at HD
        rw [HFF.out] at hs
        obtain ⟨b0, o0, rfl, hb0, hg0⟩ := HA.out.get (by intro h; rw [h] at h1; simp at h1)
        obtain ⟨d0, _, hc0, hv0⟩ := hg0 k h1
        obtain ⟨c0, hd0⟩ : ∃ c, c = Value.string l1[k].1 :: d0 := ⟨_, rfl⟩
        rw [← hd0] at hc0
        have D0 := Lib.hid hd0
        have C0 := Lib.hid (show ∀ u : World, Below w.heap.size w u → u.rangeAt b0 (o0 + k * 14) c0 from fun u hu => (hc0.below (hu.mono hB) hb0).range)
        have hz0 := Lib.hid (sizeFLD14 (show c0.length = 14 by rw [hd0, List.length_cons, hv0.len]))
        have V0 := Lib.hid hv0
        clear hg0 hc0 hv0 hd0
        obtain ⟨b1, o1, rfl, hb1, hg1⟩ := HB0.out.get (by intro h; rw [h] at h2; simp at h2)
        obtain ⟨d1, _, hc1, hv1⟩ := hg1 k h2
        obtain ⟨c1, hd1⟩ : ∃ c, c = Value.string l2[k].1 :: d1 := ⟨_, rfl⟩
        rw [← hd1] at hc1
        have D1 := Lib.hid hd1
        have C1 := Lib.hid (show ∀ u : World, Below w.heap.size w u → u.rangeAt b1 (o1 + k * 14) c1 from fun u hu => (hc1.below (hu.mono hB) hb1).range)
        have hz1 := Lib.hid (sizeFLD14 (show c1.length = 14 by rw [hd1, List.length_cons, hv1.len]))
        have V1 := Lib.hid hv1
        clear hg1 hc1 hv1 hd1
        have HS := Lib.hid (show s = cmpD m l1[k].2 l2[k].2 from hs)
        clear hs
        go_wp2_with fail
        refine wp_region_held_drew (S := fun u => Below w.heap.size w u) (by kernel_rfl) (HB.out.trans (drewB _)) (fun hHeld => ?_)
        refine' wpAnyH_takeU (i := 0) (v := .func (.func 99) #[] #[.pointer (some ⟨pb, 0, none⟩)]) _ rfl rfl (by kernel_rfl) (by kernel_rfl) (by kernel_rfl) (fun _ _ _ h => h) (.inl ⟨by rfl, fun u hu => (by go_simp)⟩) hHeld ?_
        simp only [List.set_cons_succ, List.set_cons_zero]
        refine' wpAnyH_takeU (i := 1) (v := .slice (some ⟨b0, o0, none⟩) l1.length yc) _ rfl rfl (by kernel_rfl) (by kernel_rfl) (by kernel_rfl) (fun _ _ _ h => h) (.inl ⟨by rfl, fun u hu => (by go_simp)⟩) hHeld ?_
        simp only [List.set_cons_succ, List.set_cons_zero]
        refine' wpAnyH_takeU (i := 2) (v := .int .i64 ((k : Nat) : Int)) _ rfl rfl (by kernel_rfl) (by kernel_rfl) (by kernel_rfl) (fun _ _ _ h => h) (.inl ⟨by rfl, fun u hu => (by go_simp)⟩) hHeld ?_
        simp only [List.set_cons_succ, List.set_cons_zero]
        refine' wpAnyH_takeU (i := 3) (v := .pointer (some ⟨b0, o0 + k * 14, none⟩)) _ rfl rfl (by kernel_rfl) (by kernel_rfl) (by kernel_rfl) (fun _ _ _ h => h) (.inl ⟨by rfl, fun u hu => (by go_simp; all_goals first | omega | (rw [IntKind.wrap_i64]; omega) | (rw [if_pos (by omega)]; congr; all_goals omega))⟩) hHeld ?_
        simp only [List.set_cons_succ, List.set_cons_zero]
        refine' wpAnyH_takeU (i := 4) (v := .agg c0.toArray) _ rfl rfl (by kernel_rfl) (by kernel_rfl) (by kernel_rfl) (fun _ _ _ h => h) (yieldsIf_load_mid (by kernel_rfl) 77 _ rfl b0 (o0 + k * 14) rfl c0 _ (fun u hu => C0.out u hu) Tryz.underlying77 rfl hz0.out) hHeld ?_
        simp only [List.set_cons_succ, List.set_cons_zero]
        refine' wpAnyH_takeU (i := 5) (v := .slice (some ⟨b1, o1, none⟩) l2.length yd) _ rfl rfl (by kernel_rfl) (by kernel_rfl) (by kernel_rfl) (fun _ _ _ h => h) (.inl ⟨by rfl, fun u hu => (by go_simp)⟩) hHeld ?_
        simp only [List.set_cons_succ, List.set_cons_zero]
        refine' wpAnyH_takeU (i := 6) (v := .int .i64 ((k : Nat) : Int)) _ rfl rfl (by kernel_rfl) (by kernel_rfl) (by kernel_rfl) (fun _ _ _ h => h) (.inl ⟨by rfl, fun u hu => (by go_simp)⟩) hHeld ?_
        simp only [List.set_cons_succ, List.set_cons_zero]
        refine' wpAnyH_takeU (i := 7) (v := .pointer (some ⟨b1, o1 + k * 14, none⟩)) _ rfl rfl (by kernel_rfl) (by kernel_rfl) (by kernel_rfl) (fun _ _ _ h => h) (.inl ⟨by rfl, fun u hu => (by go_simp; all_goals first | omega | (rw [IntKind.wrap_i64]; omega) | (rw [if_pos (by omega)]; congr; all_goals omega))⟩) hHeld ?_
        simp only [List.set_cons_succ, List.set_cons_zero]
        refine' wpAnyH_takeU (i := 8) (v := .agg c1.toArray) _ rfl rfl (by kernel_rfl) (by kernel_rfl) (by kernel_rfl) (fun _ _ _ h => h) (yieldsIf_load_mid (by kernel_rfl) 77 _ rfl b1 (o1 + k * 14) rfl c1 _ (fun u hu => C1.out u hu) Tryz.underlying77 rfl hz1.out) hHeld ?_
        simp only [List.set_cons_succ, List.set_cons_zero]
        refine wpAnyH_ready (rs := [9]) (by kernel_rfl) (by simp) ?_
        refine AllReadyH.cons rfl (fun K hK => ?_) AllReadyH.nil
        rw [if_pos (by rfl)]
        go_simp
        refine (ord3 HI.out l1[k].2 l2[k].2 _ B N pb c0 c1 d0 d1 _ _ left D0.out D1.out hm hleft (HO1.out _ (List.getElem_mem h1)) (HO2.out _ (List.getElem_mem h2)) hN (Nat.le_trans hB hHeld.size) (V0.out.below (hHeld.mono hB)) (V1.out.below (hHeld.mono hB)) (HC.out.below hHeld)).mono ?_
        rintro e uC ⟨rfl, hbC⟩
        rw [← HS.out]
        refine hK.out _ _ (belowThen hHeld hbC) (fun hHeld1 => ?_)
        clear hK K hbC hHeld
        refine wpAnyH_ready (rs := [10]) (by kernel_rfl) (by simp) ?_
        refine AllReadyH.cons rfl (fun K hK => ?_) AllReadyH.nil
        rw [if_pos (by rfl)]
        go_simp
        refine hK.out _ _ hHeld1 (fun hHeldx => ?_)
        clear hK K hHeldx
        refine wpAnyH_done (by kernel_rfl) ?_ _
        have HB1 := Lib.hid hHeld1
        clear hHeld1
        by_cases h3 : s = 0
        · have h4 := Lib.hid h3
          have h5 : (s != 0) = false := by simp [h3]
          clear h3
          go_wp2_with fail
          go_roundw
          case rel => exact ⟨k + 1, by go_num, by omega, by omega, HB1, Lib.hid (by rw [HD.out, if_pos h4.out])⟩
          case measure => simp [intOf]; omega
        · have h4 := Lib.hid h3
          have h5 : (s != 0) = true := by simp [h3]
          clear h3
          go_wp2_with fail
          go_ret
          exact ⟨by rw [HD.out, if_neg h4.out]; try rfl, HB1.out⟩
      · have HD := Lib.hid (show lisC F l1 l2 = sgn l1.length l2.length by rw [HE.out, lisC_end F hkl hkm (.inr (by omega))])
        obtain ⟨s, hs⟩ : ∃ s, s = sgn (l1.length : Int) l2.length := ⟨_, rfl⟩
        have HS := Lib.hid hs
        clear hs
        go_wp2_with (go_at_call 88; refine (cmp_i _ _ _).mono ?_; rintro e w1 ⟨rfl, rfl⟩; rw [← HS.out])
        go_ret
        exact ⟨by rw [HD.out, ← HS.out]; try rfl, HB.out⟩
    · have HD := Lib.hid (show lisC F l1 l2 = sgn l1.length l2.length by rw [HE.out, lisC_end F hkl hkm (.inl (by omega))])
      obtain ⟨s, hs⟩ : ∃ s, s = sgn (l1.length : Int) l2.length := ⟨_, rfl⟩
      have HS := Lib.hid hs
      clear hs
      go_wp2_with (go_at_call 88; refine (cmp_i _ _ _).mono ?_; rintro e w1 ⟨rfl, rfl⟩; rw [← HS.out])
      go_ret
      exact ⟨by rw [HD.out, ← HS.out]; try rfl, HB.out⟩
end Go.Proofs.YtmjfggadehkbjaaGreatDoor
