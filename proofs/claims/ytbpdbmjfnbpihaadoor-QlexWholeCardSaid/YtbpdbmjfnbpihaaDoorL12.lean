/- The law QlexWhole: its walk. -/
import Derived.Test.YtbpdbmjfnbpihaaDoorL11
namespace Go.Proofs.YtbpdbmjfnbpihaaDoor
open Go.RowKit

theorem drewB {B : Nat} {a b : World} (h : Below B a b) (n : Nat) : Below B a (b.drewN n) := h.trans ⟨rfl, rfl, rfl, Nat.le_refl _, fun _ _ => rfl⟩
theorem toList_data' (s : ByteArray) : s.toList = s.data.toList := ByteArray.toList_eq s
theorem ext_ne {s : ByteArray} {i en : Nat} (h1 : i < en) (h2 : en ≤ s.size) : ¬ (s.extract i en).toList = [] := by
  intro h
  have h3 : (s.extract i en).toList.length = 0 := by rw [h]; rfl
  rw [toList_data', Array.length_toList] at h3
  have h4 : (s.extract i en).data.size = (s.extract i en).size := rfl
  rw [h4, ByteArray.size_extract] at h3
  omega
theorem flatL {s0 : List (Int × Nat × Nat) × Option (Nat × Int)} {acc rest : List (Int × Nat × Nat)} {k : Int} {i en : Nat} {o : Option (Nat × Int)} (h : s0 = ((acc ++ [(k, i, en)]) ++ rest, o)) :
    acc.length < s0.1.length ∧ ∀ (s : ByteArray) (j : Nat) (u : Value), [Value.int .i64 k, .string (s.extract i en), .int .i64 i][j]? = some u → (flatT s s0.1)[acc.length * 3 + j]? = some u := by
  subst h
  refine ⟨by simp, fun s j u hu => ?_⟩
  have hj : j < 3 := by
    have := (List.getElem?_eq_some_iff.1 hu).1
    simpa using this
  simp only [flatT_append, List.append_assoc]
  rw [List.getElem?_append_right (by rw [flatT_length]; omega), flatT_length, Nat.add_sub_cancel_left]
  simp only [flatT, List.cons_append, List.nil_append]
  match j, hj with
  | 0, _ => exact hu
  | 1, _ => exact hu
  | 2, _ => exact hu
theorem own_cell {w w' : World} {B n g cap o : Nat} {xs : List Value} {u : Value} (h : w.ownsRow B 33 3 (.slice (some ⟨g, 0, none⟩) n cap) n xs) (hb : Below w.heap.size w w') (hg : g < w.heap.size) (hu : xs[o]? = some u) : w'.cell? ⟨g, o, none⟩ = some u := by
  have h1 := h.cells (g := g) rfl o u hu
  have hadd : (⟨g, 0, none⟩ : Addr).add o = ⟨g, o, none⟩ := by unfold Addr.add; split <;> simp_all
  rw [hadd] at h1
  rw [hb.cell hg]; exact h1
theorem guardTok : Program.eqGuardType Tryd.prog Tryd.prog.depth 33 = false := by kernel_rfl
theorem eqTok (k : Int) (x : ByteArray) (i : Int) (w : World) : (Op.equalIn 10000 33 (.agg #[.int .i64 k, .string x, .int .i64 i]) (.agg #[.int .i64 k, .string x, .int .i64 i])).run Tryd.prog w = .ok true w := by
  have u3 := Tryd.underlying3
  have a3 := Tryd.isAgg3
  have z3 := Tryd.sizeOf3
  have u9 := Tryd.underlying9
  have a9 := Tryd.isAgg9
  have z9 := Tryd.sizeOf9
  have hS : Tryd.prog.underlying 33 = some (.struct (Tryd.prog.fieldsOf 33)) := by kernel_rfl
  have hp : Tryd.prog.stoodInHeld 33 = false := by kernel_rfl
  rw [show (10000 : Nat) = 9999 + 1 from rfl, run_equalIn_agg w 9999 33 _ _ hS hp]
  simp only [Program.fieldsOf, Tryd.underlying33]
  go_simp
def LawW (w : World) (e : Ending) (w' : World) : Prop := e = .returned (.bool true) ∧ Below w.heap.size w w'

set_option maxRecDepth 100000 in
set_option maxHeartbeats 6400000 in
theorem law5 (s : ByteArray) (w : World) (hs0 : s.size ≤ maxLen) (hT : Lib.Utf8Tabs 3 4 w) : Calls Tryd.prog 5 #[.string s] w (LawW w) := by
  have HT := Lib.hid hT
  clear hT
  unfold maxLen at hs0
  by_cases hs : s.size ≤ 4000
  case neg =>
    have hgt : (4000 : Int) < s.size := by omega
    go_enter Tryd.func5, Tryd.ntmps5
    go_wp2_with fail
    go_ret
    exact ⟨rfl, Below.refl _ _⟩
  have hgt : ¬ (4000 : Int) < s.size := by omega
  obtain ⟨R, hR⟩ := next_fun s (by omega)
  have HR := Lib.hid hR
  clear hR
  go_enter Tryd.func5, Tryd.ntmps5
  go_wp2_with fail
  refine (bad35 s w (by omega)).mono ?_
  rintro e w0 ⟨b, rfl, hb, m, rfl⟩
  have HB0 := Lib.hid (show Below w.heap.size w (w.drewN m) from ⟨rfl, rfl, rfl, Nat.le_refl _, fun _ _ => rfl⟩)
  by_cases hb0 : b < 0
  case neg =>
    clear hb
    go_wp2_with fail
    go_ret
    exact ⟨rfl, HB0.out⟩
  have HV := Lib.hid (hb.1 hb0)
  clear hb
  go_wp2_with fail
  refine (tokens16 s R _ hs HR.out (tabs_below HT.out HB0.out) HV.out).mono ?_
  rintro e w1 ⟨hb1, htk⟩
  have HB1 := Lib.hid (HB0.out.trans (hb1.mono HB0.out.size))
  clear hb1
  cases hL : (runT R s.size s.size 0).2 with
  | none =>
    rw [hL] at htk
    obtain ⟨v, rfl, hown⟩ := htk
    have HOw := Lib.hid hown
    have HL := Lib.hid hL
    clear hL hown
    go_wp2_with fail
    go_simp
    go_loopw [6, 7] (fun t u wr => ∃ (i f : Nat) (acc : List (Int × Nat × Nat)), t = .int .i64 i ∧ u = .int .i64 acc.length ∧ i ≤ s.size ∧ s.size ≤ i + f ∧ acc.length ≤ i ∧ Below w1.heap.size w1 wr ∧ Hid (runT R s.size s.size 0 = (acc ++ (runT R s.size f i).1, (runT R s.size f i).2))) (fun t _ _ => s.size - (intOf t).toNat)
    case atStart => exact ⟨0, s.size, [], rfl, rfl, by omega, by omega, by simp, Below.refl _ _, rfl⟩
    case round =>
      obtain ⟨w3, rfl⟩ : ∃ w3, w3 = wr := ⟨wr, rfl⟩
      obtain ⟨i, f, acc, rfl, rfl, hi, hf, hacc, hbel, HQ⟩ := hrel
      have HB := Lib.hid hbel
      clear hbel
      by_cases hlt : i < s.size
      case neg =>
        have HZ := Lib.hid (show runT R s.size s.size 0 = (acc, none) by
          rw [HQ.out]
          cases f with
          | zero => simp [runT]
          | succ f => rw [runT, if_neg hlt]; simp)
        have hl2 : acc.length = (runT R s.size s.size 0).1.length := by rw [HZ.out]
        have HLen := Lib.hid hl2
        clear hl2
        have hl3 : (runT R s.size s.size 0).1.length = acc.length := HLen.out.symm
        generalize (runT R s.size s.size 0).1.length = M at *
        subst hl3
        rcases HOw.out.2 with ⟨rfl, h0⟩ | ⟨g, cap, cur, rfl, hrest⟩
        · have h0' : acc.length = 0 := h0
          go_wp2_with fail
          go_ret
          exact ⟨rfl, HB1.out.trans (HB.out.mono HB1.out.size)⟩
        · clear hrest
          go_wp2_with fail
          go_ret
          exact ⟨rfl, HB1.out.trans (HB.out.mono HB1.out.size)⟩
      obtain ⟨f, rfl⟩ : ∃ g, f = g + 1 := ⟨f - 1, by omega⟩
      have hN := HR.out i hlt
      cases hr : R i with
      | err e2 =>
        rw [hr] at hN
        obtain ⟨hne2, hN⟩ := hN
        have HN := Lib.hid hN
        have h2 := HL.out
        rw [HQ.out, runT, if_pos hlt, hr] at h2
        simp at h2
      | tok k en =>
        rw [hr] at hN
        obtain ⟨h1, h2, hN⟩ := hN
        have HN := Lib.hid hN
        have HZ := Lib.hid (show runT R s.size s.size 0 = (acc ++ (if spaceK k = true then (runT R s.size f en).1 else (k, i, en) :: (runT R s.size f en).1), (runT R s.size f en).2) by rw [HQ.out, runT, if_pos hlt, hr])
        have hmin : min en s.size = en := Nat.min_eq_left h2
        have hlen : (s.extract i en).size = en - i := by rw [ByteArray.size_extract, hmin]
        have hcast : ((i : Int) + ((en - i : Nat) : Int)) = (en : Int) := by omega
        clear hN hr
        go_wp2_with fail
        refine (HN.out w3).mono ?_
        rintro e w4 ⟨rfl, hb2⟩
        have HB2 := Lib.hid (belowThen HB.out hb2)
        have HB3 := Lib.hid (show Below w1.heap.size w1 (w4.alloc (.cells #[.int .i64 k, .string (s.extract i en), .int .i64 i] 33)) from HB2.out.alloc HB2.out.size _)
        clear hb2
        by_cases hsp : spaceK k = true
        · have HZ2 := Lib.hid (show runT R s.size s.size 0 = (acc ++ (runT R s.size f en).1, (runT R s.size f en).2) by rw [HZ.out, if_pos hsp])
          have hk : k = 1 ∨ k = 2 ∨ k = 3 := by simpa [spaceK, or_assoc] using hsp
          clear hsp
          rcases hk with rfl | rfl | rfl
          all_goals
            go_wp2_with fail
            have he0 : ¬ (s.extract i en).toList = [] := ext_ne h1 h2
            have he1 : ((s.extract i en).toList == []) = false := by simp [he0]
            have he2 : (s.extract i en).toList.isEmpty = false := by simp [he0]
            have hg2 : ¬ ((s.size : Int) - i < ((en - i : Nat) : Int)) := by omega
            go_quiet (fail)
            go_wp2_with fail
            go_roundw
            case rel => exact ⟨en, f, acc, rfl, rfl, h2, by omega, by omega, drewB HB3.out _, HZ2.out⟩
            case measure => simp [intOf]; omega
        · have HZ2 := Lib.hid (show runT R s.size s.size 0 = ((acc ++ [(k, i, en)]) ++ (runT R s.size f en).1, (runT R s.size f en).2) by rw [HZ.out, if_neg hsp]; simp)
          have hk : ¬ k = 1 ∧ ¬ k = 2 ∧ ¬ k = 3 := by simpa [spaceK, and_assoc] using hsp
          obtain ⟨k1, k2, k3⟩ := hk
          have r1 : (k == 1) = false := by simp [k1]
          have r2 : (k == 2) = false := by simp [k2]
          have r3 : (k == 3) = false := by simp [k3]
          clear hsp
          have hlen3 := flatL HZ2.out
          rcases HOw.out.2 with ⟨rfl, h0⟩ | ⟨g, cap, cur, rfl, hgb, hgg, hrest⟩
          · exfalso; have := hlen3.1; omega
          have hltL := hlen3.1
          have hltL2 : ¬ ((runT R s.size s.size 0).1.length : Int) ≤ (acc.length : Int) := by omega
          have hg1 : g < w1.heap.size := (Array.getElem?_eq_some_iff.1 hgg).1
          have e0 : (w4.alloc (.cells #[.int .i64 k, .string (s.extract i en), .int .i64 i] 33)).cell? ⟨g, acc.length * 3, none⟩ = some (.int .i64 k) := own_cell HOw.out HB3.out hg1 (hlen3.2 s 0 _ rfl)
          have e1 : (w4.alloc (.cells #[.int .i64 k, .string (s.extract i en), .int .i64 i] 33)).cell? ⟨g, acc.length * 3 + 1, none⟩ = some (.string (s.extract i en)) := own_cell HOw.out HB3.out hg1 (hlen3.2 s 1 _ rfl)
          have e2 : (w4.alloc (.cells #[.int .i64 k, .string (s.extract i en), .int .i64 i] 33)).cell? ⟨g, acc.length * 3 + 2, none⟩ = some (.int .i64 i) := own_cell HOw.out HB3.out hg1 (hlen3.2 s 2 _ rfl)
          have heq : ∀ u, (Op.equalIn 10000 33 (.agg #[.int .i64 k, .string (s.extract i en), .int .i64 i]) (.agg #[.int .i64 k, .string (s.extract i en), .int .i64 i])).run Tryd.prog u = .ok true u := eqTok k (s.extract i en) i
          have hgt3 := guardTok
          clear hgg hrest hgb hlen3
          go_wp2_with fail
          have he0 : ¬ (s.extract i en).toList = [] := ext_ne h1 h2
          have he1 : ((s.extract i en).toList == []) = false := by simp [he0]
          have he2 : (s.extract i en).toList.isEmpty = false := by simp [he0]
          have hg2 : ¬ ((s.size : Int) - i < ((en - i : Nat) : Int)) := by omega
          go_quiet (fail)
          go_wp2_with fail
          go_quiet (fail)
          go_wp2_with fail
          go_roundw
          case rel => exact ⟨en, f, acc ++ [(k, i, en)], rfl, by simp, h2, by omega, by simp; omega, drewB HB3.out _, HZ2.out⟩
          case measure => simp [intOf]; omega
  | some ne =>
    obtain ⟨n, er⟩ := ne
    rw [hL] at htk
    obtain ⟨hne, rfl⟩ := htk
    have HL := Lib.hid hL
    have q0 : (er == 0) = false := by simp [hne]
    clear hL
    go_wp2_with fail
    go_simp
    go_loopw [6, 7] (fun t u wr => ∃ (i f : Nat) (acc : List (Int × Nat × Nat)), t = .int .i64 i ∧ u = .int .i64 acc.length ∧ i ≤ s.size ∧ s.size ≤ i + f ∧ acc.length ≤ i ∧ Below w.heap.size w wr ∧ Hid (runT R s.size s.size 0 = (acc ++ (runT R s.size f i).1, (runT R s.size f i).2))) (fun t _ _ => s.size - (intOf t).toNat)
    case atStart => exact ⟨0, s.size, [], rfl, rfl, by omega, by omega, by simp, HB1.out, rfl⟩
    case round =>
      obtain ⟨w3, rfl⟩ : ∃ w3, w3 = wr := ⟨wr, rfl⟩
      obtain ⟨i, f, acc, rfl, rfl, hi, hf, hacc, hbel, HQ⟩ := hrel
      have HB := Lib.hid hbel
      clear hbel HB1
      by_cases hlt : i < s.size
      case neg =>
        exfalso
        have h2 := HL.out
        rw [HQ.out] at h2
        cases f with
        | zero => simp [runT] at h2
        | succ f => rw [runT, if_neg hlt] at h2; simp at h2
      obtain ⟨f, rfl⟩ : ∃ g, f = g + 1 := ⟨f - 1, by omega⟩
      have hN := HR.out i hlt
      cases hr : R i with
      | err e2 =>
        rw [hr] at hN
        obtain ⟨hne2, hN⟩ := hN
        have HN := Lib.hid hN
        have h2 := HL.out
        rw [HQ.out, runT, if_pos hlt, hr] at h2
        have h3 : (if e2 = 4 then s.size else i) = n ∧ e2 = er := by simpa using h2
        obtain ⟨h3, rfl⟩ := h3
        clear hN hr h2
        go_wp2_with fail
        refine (HN.out w3).mono ?_
        rintro e w4 ⟨rfl, hb2⟩
        have HB2 := Lib.hid (HB.out.trans (hb2.mono HB.out.size))
        have HB3 := Lib.hid (show Below w.heap.size w (w4.alloc (.cells #[.int .i64 0, .string ⟨#[]⟩, .int .i64 0] 33)) from HB2.out.alloc HB2.out.size _)
        clear hb2
        have q1 : (e2 != 0) = true := by simp [hne2]
        by_cases h4 : e2 = 4
        · have hn : n = s.size := by rw [← h3, if_pos h4]
          clear h3
          subst hn h4
          go_wp2_with fail
          go_ret
          exact ⟨rfl, HB3.out⟩
        · have hn : n = i := by rw [← h3, if_neg h4]
          have q2 : (e2 == 4) = false := by simp [h4]
          clear h3
          subst hn
          go_wp2_with fail
          go_ret
          exact ⟨rfl, HB3.out⟩
      | tok k en =>
        rw [hr] at hN
        obtain ⟨h1, h2, hN⟩ := hN
        have HN := Lib.hid hN
        have HZ := Lib.hid (show runT R s.size s.size 0 = (acc ++ (if spaceK k = true then (runT R s.size f en).1 else (k, i, en) :: (runT R s.size f en).1), (runT R s.size f en).2) by rw [HQ.out, runT, if_pos hlt, hr])
        have hmin : min en s.size = en := Nat.min_eq_left h2
        have hlen : (s.extract i en).size = en - i := by rw [ByteArray.size_extract, hmin]
        have hcast : ((i : Int) + ((en - i : Nat) : Int)) = (en : Int) := by omega
        clear hN hr
        go_wp2_with fail
        refine (HN.out w3).mono ?_
        rintro e w4 ⟨rfl, hb2⟩
        have HB2 := Lib.hid (HB.out.trans (hb2.mono HB.out.size))
        have HB3 := Lib.hid (show Below w.heap.size w (w4.alloc (.cells #[.int .i64 k, .string (s.extract i en), .int .i64 i] 33)) from HB2.out.alloc HB2.out.size _)
        clear hb2
        by_cases hsp : spaceK k = true
        · have HZ2 := Lib.hid (show runT R s.size s.size 0 = (acc ++ (runT R s.size f en).1, (runT R s.size f en).2) by rw [HZ.out, if_pos hsp])
          have hk : k = 1 ∨ k = 2 ∨ k = 3 := by simpa [spaceK, or_assoc] using hsp
          clear hsp
          rcases hk with rfl | rfl | rfl
          all_goals
            go_wp2_with fail
            have he0 : ¬ (s.extract i en).toList = [] := ext_ne h1 h2
            have he1 : ((s.extract i en).toList == []) = false := by simp [he0]
            have he2 : (s.extract i en).toList.isEmpty = false := by simp [he0]
            have hg2 : ¬ ((s.size : Int) - i < ((en - i : Nat) : Int)) := by omega
            go_quiet (fail)
            go_wp2_with fail
            go_roundw
            case rel => exact ⟨en, f, acc, rfl, rfl, h2, by omega, by omega, drewB HB3.out _, HZ2.out⟩
            case measure => simp [intOf]; omega
        · have HZ2 := Lib.hid (show runT R s.size s.size 0 = ((acc ++ [(k, i, en)]) ++ (runT R s.size f en).1, (runT R s.size f en).2) by rw [HZ.out, if_neg hsp]; simp)
          have hk : ¬ k = 1 ∧ ¬ k = 2 ∧ ¬ k = 3 := by simpa [spaceK, and_assoc] using hsp
          obtain ⟨k1, k2, k3⟩ := hk
          have r1 : (k == 1) = false := by simp [k1]
          have r2 : (k == 2) = false := by simp [k2]
          have r3 : (k == 3) = false := by simp [k3]
          clear hsp
          go_wp2_with fail
          have he0 : ¬ (s.extract i en).toList = [] := ext_ne h1 h2
          have he1 : ((s.extract i en).toList == []) = false := by simp [he0]
          have he2 : (s.extract i en).toList.isEmpty = false := by simp [he0]
          have hg2 : ¬ ((s.size : Int) - i < ((en - i : Nat) : Int)) := by omega
          go_quiet (fail)
          go_wp2_with fail
          go_quiet (fail)
          go_wp2_with fail
          go_roundw
          case rel => exact ⟨en, f, acc ++ [(k, i, en)], rfl, by simp, h2, by omega, by simp; omega, drewB HB3.out _, HZ2.out⟩
          case measure => simp [intOf]; omega
end Go.Proofs.YtbpdbmjfnbpihaaDoor
