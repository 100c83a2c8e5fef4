/- qcode.Check, datakitref41.Check: what is wrong with code. -/
import Derived.Test.YtnoddigkafldfaaDoorOne41p
import Derived.Deep.RegionHeld3
namespace Go.Proofs.YtnoddigkafldfaaDoor
open Go.RowKit

/-- Code in memory: two cells. -/
def codeC (start : Int) (n : Nat) (a : Option Addr) (c : Nat) : List Value := [.int .i64 start, .slice a n c]
theorem sizeCode : (Tryd.prog.info? 24).map (·.size) = some 2 := by kernel_rfl
def zeroI : Array Value := #[.int .i64 0, .int .i64 0, .int .i64 0, .string ⟨#[]⟩, .int .i64 0, .bool false, .bool false, .string ⟨#[]⟩, .int .i64 0, .int .i64 0, .int .i64 0, .int .i64 0, .int .i64 0, .string ⟨#[]⟩, .slice none 0 0, .slice none 0 0, .slice none 0 0]
theorem insRow {cs : List Value} (h : cs.length = 17) : (Tryd.prog.info? 40).map (·.size) = some cs.toArray.size := by rw [List.size_toArray, h]; exact sizeIns
theorem insZero {cs : List Value} (h : cs.length = 17) : zeroI.toList.toArray.size = cs.toArray.size := by rw [List.size_toArray, List.size_toArray, h]; rfl
theorem codeE_ok {start : Int} {l : List InsD} (h : ¬ (start < 0 ∨ (l.length : Int) ≤ start)) : codeE start l = inssE l.length (l.drop 0) := by
  unfold codeE
  rw [if_neg h, List.drop_zero]
theorem TabAt.then {w w' : World} (h : TabAt w) (hb : Below w.heap.size w w') : TabAt w' := h.below hb

set_option maxRecDepth 100000 in
set_option maxHeartbeats 6400000 in
theorem code_prog (start : Int) (l : List InsD) (a : Option Addr) (c : Nat) (w : World) (N : Nat) (hN : N ≤ 4294967296) (hl : l.length ≤ 400) (hT : Lib.Utf8Tabs 0 1 w) (hA : TabAt w) (h : InssAt w w.heap.size N l a) :
    Calls Tryd.prog 5 #[.agg #[.int .i64 start, .slice a l.length c]] w (IntB (codeE start l) w) := by
  have HT := Lib.hid hT
  have HA := Lib.hid hA
  have HL := Lib.hid h
  obtain ⟨n, hn⟩ : ∃ n, l.length = n := ⟨_, rfl⟩
  have HNL := Lib.hid hn
  have H0 := Lib.hid (belowBox w (.cells (codeC start n a c).toArray 24))
  have R0 := Lib.hid (box_at w (codeC start n a c) 24)
  rw [hn] at hl ⊢
  clear hT hA h hn
  by_cases h1 : start < 0
  · have HR := Lib.hid (show codeE start l = 2 by unfold codeE; rw [if_pos (.inl h1)])
    go_enter Tryd.func5, Tryd.ntmps5
    go_wp2_with fail
    go_ret
    exact int_ret HR.out H0.out
  by_cases h2 : (n : Int) ≤ start
  · have HR := Lib.hid (show codeE start l = 2 by unfold codeE; rw [HNL.out, if_pos (.inr h2)])
    have h3 : 0 ≤ start := by omega
    clear h1
    go_enter Tryd.func5, Tryd.ntmps5
    go_wp2_with fail
    go_ret
    exact int_ret HR.out H0.out
  have HR := Lib.hid (show codeE start l = inssE n (l.drop 0) by rw [codeE_ok (by rw [HNL.out]; omega), HNL.out])
  have h3 : 0 ≤ start := by omega
  have h4 : start < (n : Int) := by omega
  clear h1 h2
  go_enter Tryd.func5, Tryd.ntmps5
  go_wp2_with fail
  go_simp
  go_loopw [24] (fun t wr => ∃ j : Nat, j ≤ n ∧ t = .int .i64 j ∧ Hid (codeE start l = inssE n (l.drop j)) ∧ Hid (CellsAt wr w.heap.size 0 (codeC start n a c)) ∧ Hid (Below w.heap.size w wr) ∧ w.heap.size < wr.heap.size) (fun t _ => n - (intOf t).toNat)
  case atStart => exact ⟨0, by omega, rfl, HR, R0, H0, by rw [World.size_alloc]; omega⟩
  case round =>
    clear R0 H0 HR
    obtain ⟨w1, rfl⟩ : ∃ w1, w1 = wr := ⟨wr, rfl⟩
    obtain ⟨j, hj, rfl, HE, R1, H1, hs1⟩ := hrel
    by_cases hlt : j < n
    · have hlt2 : j < l.length := by rw [HNL.out]; exact hlt
      obtain ⟨b, o, rfl, hb, cs, g1, g2⟩ := HL.out.get hlt2
      obtain ⟨x, hx⟩ : ∃ x, l[j] = x := ⟨_, rfl⟩
      rw [hx] at g2
      have HX := Lib.hid hx
      have HC := Lib.hid (g1.below H1.out hb)
      have HI := Lib.hid g2
      have HLN := Lib.hid g2.len
      have HON := Lib.hid (Go.all_oneCell_toArray g2.oneCell)
      have hli := Lib.hid (show (Tryd.prog.info? 40).map (·.size) = some cs.length by rw [g2.len]; exact sizeIns)
      have H2 := Lib.hid (belowThen H1.out (belowBox w1 (.cells cs.toArray 40)))
      have R2 := Lib.hid (R1.out.then (belowBox w1 (.cells cs.toArray 40)) hs1)
      have X2 := Lib.hid (box_at w1 cs 40)
      have HS2 := Lib.hid (World.size_alloc w1 (.cells cs.toArray 40))
      have e1 := R2.out.get0 (j := 1) (v := .slice (some ⟨b, o, none⟩) n c) rfl
      clear hx g1 g2
      go_wp2_with (first
        | ((with_reducible show wpList _ _ _ (⟨some 27, _, _, _, _, _⟩ :: _) _ _); refine wpList_load_mid rfl 40 _ rfl b (o + j * 17) rfl cs _ HC.out.range Tryd.underlying40 rfl hli.out ?_)
        | ((with_reducible show wpList _ _ _ (⟨none, .store 40 (.tmp 4) _, _, _, _, _⟩ :: _) _ _); refine wpList_store_new rfl 40 _ _ rfl zeroI cs.toArray rfl rfl (insRow HLN.out) (insZero HLN.out) HON.out ?_)
        | ((with_reducible show wpList _ _ _ (⟨some 28, _, _, _, _, _⟩ :: _) _ _); refine wpList_load_mid rfl 40 _ rfl w1.heap.size 0 rfl cs _ X2.out.range Tryd.underlying40 rfl hli.out ?_))
      refine (check_prog x n _ w.heap.size N cs hN H2.out.size (utf_below HT.out H2.out) (HA.out.then H2.out) (HI.out.below H2.out)).mono ?_
      rintro e w3 ⟨rfl, hb3⟩
      have H3 := Lib.hid (belowThen H2.out hb3)
      have R3 := Lib.hid (R2.out.then hb3 (by rw [HS2.out]; omega))
      have hs3 : w.heap.size < w3.heap.size := by have := hb3.size; rw [HS2.out] at this; omega
      obtain ⟨k, hk⟩ : ∃ k, insE x n = k := ⟨_, rfl⟩
      have HK := Lib.hid hk
      rw [hk]
      clear hb3 hk e1
      by_cases hk0 : k = 0
      · have HE2 := Lib.hid (show codeE start l = inssE n (l.drop (j + 1)) by rw [HE.out, inssE_step hlt2 (by rw [HX.out, HK.out]; exact hk0)])
        subst hk0
        go_wp2
        go_roundw
        case rel => exact ⟨j + 1, by omega, by go_num, HE2, R3, H3, hs3⟩
        case measure => simp [intOf] <;> omega
      · have HE2 := Lib.hid (show codeE start l = k by rw [HE.out, inssE_stop hlt2 (by rw [HX.out, HK.out]; exact hk0), HX.out, HK.out])
        have k1 : (k == 0) = false := by simpa using hk0
        have k2 : (k != 0) = true := by simpa using hk0
        clear hk0
        go_wp2_with fail
        go_ret
        exact int_ret HE2.out H3.out
    · obtain rfl : j = n := by omega
      have HE2 := Lib.hid (show codeE start l = 0 by rw [HE.out, ← HNL.out]; exact inssE_end)
      go_wp2_with fail
      go_ret
      exact int_ret HE2.out H1.out
end Go.Proofs.YtnoddigkafldfaaDoor
