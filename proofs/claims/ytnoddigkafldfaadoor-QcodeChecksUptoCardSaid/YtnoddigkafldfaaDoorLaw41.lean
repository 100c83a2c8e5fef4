/- The law QcodeChecks: it says yes, of code that lies in memory. -/
import Derived.Test.YtnoddigkafldfaaDoorChr41
namespace Go.Proofs.YtnoddigkafldfaaDoor
open Go.RowKit

set_option maxRecDepth 100000 in
set_option maxHeartbeats 1600000 in
theorem small_ex50 (w : World) (B N : Nat) (v : ValD) (cs : List Value) (hN : N ≤ 1099511627776) (hB : B ≤ w.heap.size) (hv : ValD.At w B N v cs) :
    Calls Tryd.prog 7 #[.agg cs.toArray, .int .i64 50, .int .i64 60] w (SmallR 60 v w) := by
  have HV := Lib.hid hv
  have hl := Lib.hid (show (Tryd.prog.info? 38).map (·.size) = some cs.length by rw [hv.len]; exact sizeV)
  have H0 := Lib.hid (show Below w.heap.size w (w.alloc (.cells cs.toArray 38)) from belowBox w _)
  clear hv
  go_enter Tryd.func7, Tryd.ntmps7
  go_wp2_with (refine wpList_load_mid rfl 38 _ rfl w.heap.size 0 rfl cs _ (box_at w cs 38).range Tryd.underlying38 rfl hl.out ?_)
  refine (room_ex 60 _ B N v cs 50 (by omega) (by omega) (by omega) hN (Nat.le_trans hB H0.out.size) (HV.out.below (H0.out.mono hB))).mono ?_
  rintro e w1 ⟨k, rfl, hk, _, _, hb1⟩
  have HK := Lib.hid hk
  have H1 := Lib.hid (belowThen H0.out hb1)
  clear hb1 hk
  go_wp2_with fail
  go_ret
  refine ⟨_, rfl, fun h => HK.out ?_, H1.out⟩
  simpa using h
def SmcR (n : Nat) (w : World) (e : Ending) (w' : World) : Prop := ∃ b, e = .returned (.bool b) ∧ (b = true → n ≤ 400) ∧ Below w.heap.size w w'
set_option maxRecDepth 100000 in
set_option maxHeartbeats 1600000 in
theorem small41 (start : Int) (l : List InsD) (a : Option Addr) (c : Nat) (w : World) (N : Nat) (hN : N ≤ 1099511627776) (hl : l.length ≤ 1099511627776) (h : InssAt w w.heap.size N l a) :
    Calls Tryd.prog 4 #[.agg #[.int .i64 start, .slice a l.length c]] w (SmcR l.length w) := by
  have HL := Lib.hid h
  obtain ⟨n, hn⟩ : ∃ n, l.length = n := ⟨_, rfl⟩
  have HNL := Lib.hid hn
  have H0 := Lib.hid (belowBox w (.cells (codeC start n a c).toArray 24))
  have R0 := Lib.hid (box_at w (codeC start n a c) 24)
  rw [hn] at hl ⊢
  clear h hn
  by_cases h4 : (400 : Int) < (n : Int)
  · go_enter Tryd.func4, Tryd.ntmps4
    go_wp2_with fail
    go_ret
    exact ⟨_, rfl, fun h => (by cases h), H0.out⟩
  have h5 : (n : Int) ≤ 400 := by omega
  have h6 : n ≤ 400 := by omega
  clear h4
  go_enter Tryd.func4, Tryd.ntmps4
  go_wp2_with fail
  go_simp
  go_loopw [3] (fun t wr => ∃ j : Nat, j ≤ n ∧ t = .int .i64 j ∧ Hid (CellsAt wr w.heap.size 0 (codeC start n a c)) ∧ Hid (Below w.heap.size w wr) ∧ w.heap.size < wr.heap.size) (fun t _ => n - (intOf t).toNat)
  case atStart => exact ⟨0, by omega, rfl, R0, H0, by rw [World.size_alloc]; omega⟩
  case round =>
    clear R0 H0
    obtain ⟨w1, rfl⟩ : ∃ w1, w1 = wr := ⟨wr, rfl⟩
    obtain ⟨j, hj, rfl, R1, H1, hs1⟩ := hrel
    have e0 := R1.out.get0 (j := 1) (v := .slice a n c) rfl
    by_cases hlt : j < n
    · have hlt2 : j < l.length := by rw [HNL.out]; exact hlt
      obtain ⟨b, o, rfl, hb, cs, g1, g2⟩ := HL.out.get hlt2
      obtain ⟨vs, hh⟩ := g2.has
      have HC := Lib.hid (hh.cells _ _ _ (g1.below H1.out hb))
      have HV := Lib.hid hh.val
      have hlv := Lib.hid (show (Tryd.prog.info? 38).map (·.size) = some vs.length by rw [hh.val.len]; exact sizeV)
      clear g1 g2 hh
      go_wp2_with ((with_reducible show wpList _ _ _ (⟨some 20, _, _, _, _, _⟩ :: _) _ _); refine wpList_load_mid rfl 38 _ rfl b (o + j * 17 + 4) rfl vs _ HC.out.range Tryd.underlying38 rfl hlv.out ?_)
      refine (small_ex50 _ w.heap.size N _ vs hN H1.out.size (HV.out.below H1.out)).mono ?_
      rintro e w3 ⟨b3, rfl, _, hb3⟩
      have H3 := Lib.hid (belowThen H1.out hb3)
      have R3 := Lib.hid (R1.out.then hb3 hs1)
      have hs3 : w.heap.size < w3.heap.size := Nat.lt_of_lt_of_le hs1 hb3.size
      clear hb3 e0
      cases b3 with
      | false =>
        go_wp2_with fail
        go_ret
        exact ⟨_, rfl, fun h => (by cases h), H3.out⟩
      | true =>
        go_wp2
        go_roundw
        case rel => exact ⟨j + 1, by omega, by go_num, R3, H3, hs3⟩
        case measure => simp [intOf] <;> omega
    · go_wp2_with fail
      go_ret
      exact ⟨_, rfl, fun _ => h6, H1.out⟩
theorem InssAt.mono {w : World} {B B' N : Nat} {l : List InsD} {a : Option Addr} (h : InssAt w B N l a) (hB : B ≤ B') : InssAt w B' N l a := by
  rcases h with h | ⟨b, o, h1, h2, h3⟩
  · exact .inl h
  · refine .inr ⟨b, o, h1, by omega, fun i hi => ?_⟩
    obtain ⟨cs, g1, g2⟩ := h3 i hi
    exact ⟨cs, g1, g2.mono hB⟩
theorem small41_n (start : Int) (l : List InsD) (n : Nat) (hn : l.length = n) (a : Option Addr) (c : Nat) (w : World) (N : Nat) (hN : N ≤ 1099511627776) (hl : n ≤ 1099511627776) (h : InssAt w w.heap.size N l a) :
    Calls Tryd.prog 4 #[.agg #[.int .i64 start, .slice a n c]] w (SmcR n w) := by
  subst hn
  exact small41 start l a c w N hN hl h
theorem code_prog_n (start : Int) (l : List InsD) (n : Nat) (hn : l.length = n) (a : Option Addr) (c : Nat) (w : World) (N : Nat) (k : Int) (hk : codeE start l = k) (hN : N ≤ 4294967296) (hl : n ≤ 400) (hT : Lib.Utf8Tabs 0 1 w) (hA : TabAt w) (h : InssAt w w.heap.size N l a) :
    Calls Tryd.prog 5 #[.agg #[.int .i64 start, .slice a n c]] w (IntB k w) := by
  subst hn hk
  exact code_prog start l a c w N hN hl hT hA h
theorem code_ref_n (start : Int) (l : List InsD) (n : Nat) (hn : l.length = n) (a : Option Addr) (c : Nat) (w : World) (N : Nat) (k : Int) (hk : codeE start l = k) (hN : N ≤ 4294967296) (hl : n ≤ 400) (hA : TabAt w) (h : InssAt w w.heap.size N l a) :
    Calls Tryd.prog 6 #[.agg #[.int .i64 start, .slice a n c]] w (IntB k w) := by
  subst hn hk
  exact code_ref start l a c w N hN hl hA h
def YesL (w : World) (e : Ending) (w' : World) : Prop := e = .returned (.bool true) ∧ Below w.heap.size w w'
set_option maxRecDepth 100000 in
set_option maxHeartbeats 3200000 in
theorem law41 (start : Int) (l : List InsD) (a : Option Addr) (c : Nat) (w : World) (N : Nat) (hN : N ≤ 4294967296) (hl : l.length ≤ 1099511627776) (hT : Lib.Utf8Tabs 0 1 w) (hA : TabAt w) (h : InssAt w w.heap.size N l a) :
    Calls Tryd.prog 3 #[.agg #[.int .i64 start, .slice a l.length c]] w (YesL w) := by
  have HL := Lib.hid h
  have HT := Lib.hid hT
  have HA := Lib.hid hA
  obtain ⟨n, hn⟩ : ∃ n, l.length = n := ⟨_, rfl⟩
  have HNL := Lib.hid hn
  have H0 := Lib.hid (belowBox w (.cells (codeC start n a c).toArray 24))
  have R0 := Lib.hid (box_at w (codeC start n a c) 24)
  have hli := Lib.hid (show (Tryd.prog.info? 24).map (·.size) = some (codeC start n a c).length from sizeCode)
  rw [hn] at hl ⊢
  clear h hn hT hA
  go_enter Tryd.func3, Tryd.ntmps3
  go_wp2_with fail
  refine (small41_n start l n HNL.out a c _ N (by omega) hl ((HL.out.below H0.out).mono H0.out.size)).mono ?_
  rintro e w1 ⟨b, rfl, hb4, hb1⟩
  have H1 := Lib.hid (belowThen H0.out hb1)
  have R1 := Lib.hid (R0.out.then hb1 (by rw [World.size_alloc]; omega))
  have hs1 : w.heap.size < w1.heap.size := by have := hb1.size; rw [World.size_alloc] at this; omega
  cases b with
  | false =>
    clear hb1 hb4
    go_wp2_with fail
    go_ret
    exact ⟨rfl, H1.out⟩
  | true =>
    have h400 := hb4 rfl
    obtain ⟨k, hk⟩ : ∃ k, codeE start l = k := ⟨_, rfl⟩
    have HK := Lib.hid hk
    clear hb1 hb4 hk
    go_wp2_with fail
    have D3 := Lib.hid (show Below w1.heap.size w1 w1.drew from ⟨rfl, rfl, rfl, Nat.le_refl _, fun _ _ => rfl⟩)
    refine wp_region_held_drew (S := fun u => CellsAt u w.heap.size 0 (codeC start n a c) ∧ Below w.heap.size w u ∧ w.heap.size < u.heap.size) (by kernel_rfl)
      ⟨R1.out.below D3.out hs1, belowThen H1.out D3.out, Nat.lt_of_lt_of_le hs1 D3.out.size⟩ (fun hHeld => ?_)
    refine' wpAnyH_take (i := 0) (v := _) rfl (by kernel_rfl) (by kernel_rfl) (by kernel_rfl) (fun _ _ _ h => h) (yieldsIf_load_mid (by rfl) 24 _ rfl w.heap.size 0 rfl (codeC start n a c) _ (fun u hu => hu.1.range) Tryd.underlying24 rfl hli.out) hHeld ?_
    simp only [Act.put, List.setIfInBounds_toArray]
    refine' wpAnyH_take (i := 2) (v := _) rfl (by kernel_rfl) (by kernel_rfl) (by kernel_rfl) (fun _ _ _ h => h) (yieldsIf_load_mid (by kernel_rfl) 24 _ rfl w.heap.size 0 rfl (codeC start n a c) _ (fun u hu => hu.1.range) Tryd.underlying24 rfl hli.out) hHeld ?_
    simp only [Act.put]
    refine wpAnyH_ready (rs := [1]) (by kernel_rfl) (by simp) ?_
    refine AllReadyH.cons rfl (fun K hK => ?_) AllReadyH.nil
    go_simp
    refine (code_prog_n start l n HNL.out a c _ N k HK.out hN h400 (utf_below HT.out hHeld.2.1) (HA.out.then hHeld.2.1) ((HL.out.below hHeld.2.1).mono hHeld.2.1.size)).mono ?_
    rintro e u1 ⟨rfl, hb1⟩
    refine hK.out _ _ ⟨hHeld.1.below hb1 hHeld.2.2, belowThen hHeld.2.1 hb1, Nat.lt_of_lt_of_le hHeld.2.2 hb1.size⟩ (fun hHeld1 => ?_)
    clear hK K hHeld hb1
    refine wpAnyH_ready (rs := [3]) (by kernel_rfl) (by simp) ?_
    refine AllReadyH.cons rfl (fun K hK => ?_) AllReadyH.nil
    go_simp
    refine (code_ref_n start l n HNL.out a c _ N k HK.out hN h400 (HA.out.then hHeld1.2.1) ((HL.out.below hHeld1.2.1).mono hHeld1.2.1.size)).mono ?_
    rintro e u2 ⟨rfl, hb2⟩
    refine hK.out _ _ ⟨hHeld1.1.below hb2 hHeld1.2.2, belowThen hHeld1.2.1 hb2, Nat.lt_of_lt_of_le hHeld1.2.2 hb2.size⟩ (fun hHeld2 => ?_)
    clear hK K hHeld1 hb2
    refine wpAnyH_ready (rs := [4]) (by kernel_rfl) (by simp) ?_
    refine AllReadyH.cons rfl (fun K hK => ?_) AllReadyH.nil
    go_simp
    refine hK.out _ _ hHeld2 (fun hHeld3 => ?_)
    clear hK K hHeld3
    refine wpAnyH_ready (rs := [5]) (by kernel_rfl) (by simp) ?_
    refine AllReadyH.cons rfl (fun K hK => ?_) AllReadyH.nil
    go_simp
    refine hK.out _ _ hHeld2 (fun hHeld3 => ?_)
    clear hK K hHeld3
    refine wpAnyH_done (by kernel_rfl) ?_ _
    go_wp2_with fail
    go_ret
    exact ⟨rfl, hHeld2.2.1⟩
end Go.Proofs.YtnoddigkafldfaaDoor
