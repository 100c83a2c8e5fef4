/- Tokens of layer 35, in terms of Next. -/
import Derived.Test.YtbpdbmjfnbpihaaDoorL8
import Derived.Test.YtbpdbmjfnbpihaaDoorL10
namespace Go.Proofs.YtbpdbmjfnbpihaaDoor
open Go.RowKit

inductive NR where
  | tok (kind : Int) (en : Nat)
  | err (e : Int)
def NextAt (s : ByteArray) (i : Nat) : NR → Prop
  | .tok k en => i < en ∧ en ≤ s.size ∧ NextIs s i k en
  | .err e => e ≠ 0 ∧ NextErr s i e
theorem next_fun (s : ByteArray) (hs : s.size ≤ 1099511627776) : ∃ R : Nat → NR, ∀ i, i < s.size → NextAt s i (R i) := by
  have h : ∀ i, ∃ r, i < s.size → NextAt s i r := fun i => by
    by_cases hi : i < s.size
    · rcases next_any s i hs hi with ⟨k, en, h1, h2, h3⟩ | ⟨e, h1, h2⟩
      · exact ⟨.tok k en, fun _ => ⟨h1, h2, h3⟩⟩
      · exact ⟨.err e, fun _ => ⟨h1, h2⟩⟩
    · exact ⟨.err 1, fun g => absurd g hi⟩
  exact ⟨fun i => (h i).choose, fun i hi => (h i).choose_spec hi⟩

def spaceK (k : Int) : Bool := decide (k = 1) || decide (k = 2) || decide (k = 3)
/-- The tokens that are no spaces from a place on, and the error at the end, if there is one: where, which. -/
def runT (R : Nat → NR) (m : Nat) : Nat → Nat → List (Int × Nat × Nat) × Option (Nat × Int)
  | 0, _ => ([], none)
  | f + 1, i =>
    if i < m then
      match R i with
      | .err e => ([], some (if e = 4 then m else i, e))
      | .tok k en => (if spaceK k = true then (runT R m f en).1 else (k, i, en) :: (runT R m f en).1, (runT R m f en).2)
    else ([], none)
def flatT (s : ByteArray) : List (Int × Nat × Nat) → List Value
  | [] => []
  | (k, i, en) :: r => .int .i64 k :: .string (s.extract i en) :: .int .i64 i :: flatT s r
theorem flatT_append (s : ByteArray) : ∀ (a b : List (Int × Nat × Nat)), flatT s (a ++ b) = flatT s a ++ flatT s b
  | [], b => rfl
  | (k, i, en) :: r, b => by simp [flatT, flatT_append s r b]
theorem flatT_length (s : ByteArray) : ∀ (a : List (Int × Nat × Nat)), (flatT s a).length = a.length * 3
  | [] => rfl
  | (k, i, en) :: r => by simp [flatT, flatT_length s r]; omega
theorem cell_three_new (w : World) (a b c : Value) (t : TypeId) : ∀ j u, [a, b, c][j]? = some u → (w.alloc (.cells #[a, b, c] t)).cell? ((⟨w.heap.size, 0, none⟩ : Addr).add j) = some u := by
  intro j u hu
  have hadd : (⟨w.heap.size, 0, none⟩ : Addr).add j = ⟨w.heap.size, j, none⟩ := by unfold Addr.add; split <;> simp_all
  rw [hadd, cell_of_row _ w.heap.size j _ _ _ (heap_alloc_new w _)]
  simpa using hu
theorem info33 : (Tryd.prog.info? 33).map (fun i => (i.zero, i.size, i.bytes)) = some (some (.agg #[.int .i64 0, .string ⟨#[]⟩, .int .i64 0]), 3, 32) := by kernel_rfl

theorem own_below33 {w w' : World} {B n : Nat} {v : Value} {xs : List Value} (h : w.ownsRow B 33 3 v n xs) (hb : Below w.heap.size w w') : w'.ownsRow B 33 3 v n xs := by
  refine ⟨h.1, ?_⟩
  rcases h.2 with hn | ⟨g, cap, cur, rfl, h1, h2, rest⟩
  · exact .inl hn
  · exact .inr ⟨g, cap, cur, rfl, h1, (hb.block g (Array.getElem?_eq_some_iff.1 h2).1).trans h2, rest⟩
theorem own_ne {w : World} {B n : Nat} {v : Value} {xs : List Value} {k : Nat} (h : w.ownsRow B 33 3 v n xs) (hk : v.ownBlock = some k) : k < w.heap.size := (h.lt k hk).2
/-- What Tokens hands back. -/
def TokR (s : ByteArray) (L : List (Int × Nat × Nat) × Option (Nat × Int)) (w : World) (e : Ending) (w' : World) : Prop :=
  Below w.heap.size w w' ∧ match L.2 with
  | none => ∃ v, e = .returned (.tuple #[v, .int .i64 0, .int .i64 0]) ∧ w'.ownsRow w.heap.size 33 3 v L.1.length (flatT s L.1)
  | some (n, er) => er ≠ 0 ∧ e = .returned (.tuple #[.slice none 0 0, .int .i64 n, .int .i64 er])

set_option maxRecDepth 100000 in
set_option maxHeartbeats 6400000 in
theorem tokens16 (s : ByteArray) (R : Nat → NR) (w : World) (hs : s.size ≤ 4000) (hR : ∀ i, i < s.size → NextAt s i (R i)) (hT : Lib.Utf8Tabs 3 4 w) (hv : validS s = true) :
    Calls Tryd.prog 16 #[.string s] w (TokR s (runT R s.size s.size 0) w) := by
  obtain ⟨i0, hin, hz0, hz1, hz2⟩ := info_parts info33
  have HR := Lib.hid hR
  have HT := Lib.hid hT
  have HV := Lib.hid hv
  clear hR hT hv
  go_enter Tryd.func16, Tryd.ntmps16
  go_wp2_with fail
  refine (bad24 s w (by omega) HT.out HV.out).mono ?_
  rintro e w0 ⟨rfl, hb0⟩
  have HB0 := Lib.hid hb0
  clear hb0
  go_wp2_with fail
  go_simp
  go_loopw [6, 7] (fun v t wr => ∃ (i f : Nat) (acc : List (Int × Nat × Nat)), t = .int .i64 i ∧ i ≤ s.size ∧ s.size ≤ i + f ∧ acc.length ≤ i ∧ wr.ownsRow w.heap.size 33 3 v acc.length (flatT s acc) ∧ Below w.heap.size w wr ∧ Hid (runT R s.size s.size 0 = (acc ++ (runT R s.size f i).1, (runT R s.size f i).2))) (fun _ t _ => s.size - (intOf t).toNat)
  case atStart => exact ⟨0, s.size, [], rfl, by omega, by omega, by simp, World.ownsRow_nil _ _ _ _, HB0.out, rfl⟩
  case round =>
    obtain ⟨w1, rfl⟩ : ∃ w1, w1 = wr := ⟨wr, rfl⟩
    obtain ⟨i, f, acc, rfl, hi, hf, hacc, hown, hbel, HQ⟩ := hrel
    have HO := Lib.hid hown
    have HB := Lib.hid hbel
    clear hown hbel HB0
    by_cases hlt : i < s.size
    case neg =>
      have HZ := Lib.hid (show runT R s.size s.size 0 = (acc, none) by
        rw [HQ.out]
        cases f with
        | zero => simp [runT]
        | succ f => rw [runT, if_neg hlt]; simp)
      go_wp2_with fail
      go_ret3
      exact ⟨HB.out, by rw [HZ.out]; exact ⟨_, rfl, HO.out⟩⟩
    obtain ⟨f, rfl⟩ : ∃ g, f = g + 1 := ⟨f - 1, by omega⟩
    have hN := HR.out i hlt
    cases hr : R i with
    | err er =>
      rw [hr] at hN
      obtain ⟨hne, hN⟩ := hN
      have HN := Lib.hid hN
      have HZ := Lib.hid (show runT R s.size s.size 0 = (acc, some (if er = 4 then s.size else i, er)) by rw [HQ.out, runT, if_pos hlt, hr]; simp)
      clear hN hr
      go_wp2_with fail
      refine (HN.out w1).mono ?_
      rintro e w2 ⟨rfl, hb2⟩
      have HB2 := Lib.hid (HB.out.trans (hb2.mono HB.out.size))
      have HB3 := Lib.hid (show Below w.heap.size w (w2.alloc (.cells #[.int .i64 0, .string ⟨#[]⟩, .int .i64 0] 33)) from HB2.out.alloc HB2.out.size _)
      clear hb2
      by_cases h4 : er = 4
      · have HZ2 := Lib.hid (show runT R s.size s.size 0 = (acc, some (s.size, er)) by rw [HZ.out, if_pos h4])
        have HNE := Lib.hid hne
        clear hne
        subst h4
        go_wp2_with fail
        go_ret3
        exact ⟨HB3.out, by rw [HZ2.out]; exact ⟨HNE.out, rfl⟩⟩
      · have HZ2 := Lib.hid (show runT R s.size s.size 0 = (acc, some (i, er)) by rw [HZ.out, if_neg h4])
        have q1 : (er == 4) = false := by simp [h4]
        have q2 : (er == 0) = false := by simp [hne]
        have q3 : (er != 0) = true := by simp [hne]
        go_wp2_with fail
        go_ret3
        exact ⟨HB3.out, by rw [HZ2.out]; exact ⟨hne, rfl⟩⟩
    | tok k en =>
      rw [hr] at hN
      obtain ⟨h1, h2, hN⟩ := hN
      have HN := Lib.hid hN
      have HZ := Lib.hid (show runT R s.size s.size 0 = (acc ++ (if spaceK k = true then (runT R s.size f en).1 else (k, i, en) :: (runT R s.size f en).1), (runT R s.size f en).2) by rw [HQ.out, runT, if_pos hlt, hr])
      have hmin : min en s.size = en := Nat.min_eq_left h2
      have hlen : (s.extract i en).size = en - i := by rw [ByteArray.size_extract, hmin]
      have hcast : ((i : Int) + ((en - i : Nat) : Int)) = (en : Int) := by omega
      clear hN hr
      go_wp2_with fail
      refine (HN.out w1).mono ?_
      rintro e w2 ⟨rfl, hb2⟩
      have HO2 := Lib.hid (own_below33 HO.out hb2)
      have HB2 := Lib.hid (HB.out.trans (hb2.mono HB.out.size))
      clear hb2
      have HB3 := Lib.hid (show Below w.heap.size w (w2.alloc (.cells #[.int .i64 k, .string (s.extract i en), .int .i64 i] 33)) from HB2.out.alloc HB2.out.size _)
      have HO3 := Lib.hid (HO2.out.alloc (.cells #[.int .i64 k, .string (s.extract i en), .int .i64 i] 33))
      by_cases hsp : spaceK k = true
      · have HZ2 := Lib.hid (show runT R s.size s.size 0 = (acc ++ (runT R s.size f en).1, (runT R s.size f en).2) by rw [HZ.out, if_pos hsp])
        have hk : k = 1 ∨ k = 2 ∨ k = 3 := by simpa [spaceK, or_assoc] using hsp
        clear hsp
        rcases hk with rfl | rfl | rfl
        all_goals
          go_wp2_with fail
          go_roundw
          case rel => exact ⟨en, f, acc, by go_num, h2, by omega, by omega, HO3.out, HB3.out, HZ2.out⟩
          case measure => simp [intOf]; omega
      · have HZ2 := Lib.hid (show runT R s.size s.size 0 = ((acc ++ [(k, i, en)]) ++ (runT R s.size f en).1, (runT R s.size f en).2) by rw [HZ.out, if_neg hsp]; simp)
        have hk : ¬ k = 1 ∧ ¬ k = 2 ∧ ¬ k = 3 := by simpa [spaceK, and_assoc] using hsp
        obtain ⟨k1, k2, k3⟩ := hk
        have q1 : (k == 1) = false := by simp [k1]
        have q2 : (k == 2) = false := by simp [k2]
        have q3 : (k == 3) = false := by simp [k3]
        have p1 : (k != 1) = true := by simp [k1]
        have p2 : (k != 2) = true := by simp [k2]
        have p3 : (k != 3) = true := by simp [k3]
        clear hsp
        go_wp2_with (first
          | (at_builtin; refine wpList_append_own _ rfl _ _ 28 rfl w.heap.size 33 i0 (.agg #[.int .i64 0, .string ⟨#[]⟩, .int .i64 0]) 3 32 Tryd.underlying28 hin hz0 hz1 hz2 rfl (by decide) _ _ _ rfl (HO3.out.alloc _) ⟨w2.heap.size + 1, 0, none⟩ 1 1 [.int .i64 k, .string (s.extract i en), .int .i64 i] rfl rfl (by have := cell_three_new (w2.alloc (.cells #[.int .i64 k, .string (s.extract i en), .int .i64 i] 33)) (.int .i64 k) (.string (s.extract i en)) (.int .i64 i) 33; rwa [World.size_alloc] at this) (fun x hx => by simp at hx; rcases hx with rfl | rfl | rfl <;> rfl) (by unfold maxLen; omega) (by omega) (by simp only [World.size_alloc]; have := HB2.out.size; omega) ?_
             intro v' w3 hown' hgrow3 _
             have HO4 := Lib.hid (show w3.ownsRow w.heap.size 33 3 v' (acc ++ [(k, i, en)]).length (flatT s (acc ++ [(k, i, en)])) by rw [flatT_append, List.length_append]; exact hown')
             have HB4 := Lib.hid (show Below w.heap.size w w3 from Below.grown (HB3.out.alloc HB3.out.size _) hgrow3 (by simp only [World.size_alloc]; have := HB2.out.size; omega) (fun j hj => by have := (HO3.out.lt _ hj).1; omega))
             have d0 : w3.cell? ⟨w2.heap.size, 0, none⟩ = some (.int .i64 k) := hgrow3.cell (by simp) (fun e => Nat.lt_irrefl _ (own_ne HO2.out e.symm))
             have d1 : w3.cell? ⟨w2.heap.size, 1, none⟩ = some (.string (s.extract i en)) := hgrow3.cell (by simp) (fun e => Nat.lt_irrefl _ (own_ne HO2.out e.symm))
             have d2 : w3.cell? ⟨w2.heap.size, 2, none⟩ = some (.int .i64 i) := hgrow3.cell (by simp) (fun e => Nat.lt_irrefl _ (own_ne HO2.out e.symm))
             clear hown' hgrow3))
        go_roundw
        case rel => exact ⟨en, f, acc ++ [(k, i, en)], by go_num, h2, by omega, by simp; omega, HO4.out, HB4.out, HZ2.out⟩
        case measure => simp [intOf]; omega
end Go.Proofs.YtbpdbmjfnbpihaaDoor
