/- datakitref37.texts: strings as values. -/
import Derived.Test.YtmbldgcbnkhabaaDoorSli37f
import Derived.Test.YtmbldgcbnkhabaaDoorIdx37e
import Derived.Test.YtmbldgcbnkhabaaDoorSli37a
import Derived.Test.YtmbldgcbnkhabaaDoorSli37i
import Derived.Lib.Join
namespace Go.Proofs.YtmbldgcbnkhabaaDoor
open Go.RowKit

def TxsR (N : Nat) (l : List ValD) (w : World) (e : Ending) (w' : World) : Prop := ∃ (a : Option Addr) (c : Nat), e = .returned (.slice a l.length c) ∧ l.length ≤ c ∧ ValsAt w' w'.heap.size N l a ∧ Below w.heap.size w w'
theorem own_cap {w : World} {base : Nat} {e : TypeId} {size : Nat} {a : Option Addr} {n m c : Nat} {xs : List Value} (h : w.ownsRow base e size (.slice a m c) n xs) : n ≤ c := by
  rcases h.2 with ⟨h1, h2⟩ | ⟨g, cap, cur, h1, _, _, h2, _⟩
  · omega
  · injection h1 with _ _ h3
    omega
set_option maxRecDepth 100000 in
set_option maxHeartbeats 3200000 in
theorem texts_ref (l : List ByteArray) (a : Option Addr) (c : Nat) (w : World) (N : Nat) (hll : l.length ≤ 4294967296) (hls : ∀ s ∈ l, s.size ≤ N) (h : StrsAt w l a) :
    Calls Tryd.prog 31 #[.slice a l.length c] w (TxsR N (l.map textD) w) := by
  obtain ⟨z0, hz0s, hinfo⟩ := infoV
  obtain ⟨i0, hi, hz0, hz1, hz2⟩ := info_parts hinfo
  have HI := Lib.hid hi
  have HZ0 := Lib.hid hz0
  have HZ1 := Lib.hid hz1
  have HZ2 := Lib.hid hz2
  have HZS := Lib.hid hz0s
  have HLS := Lib.hid hls
  have HA := Lib.hid h
  clear hi hz0 hz1 hz2 hz0s hinfo hls h
  have HF := Lib.hid (show ∀ s : Value, ∀ wr : World, ∀ xs : List Value, wr.ownsRow w.heap.size 30 13 s l.length xs → PartsAt w w.heap.size N (l.map textD) l.length xs → Below w.heap.size w wr → TxsR N (l.map textD) w (.returned s) wr from fun s wr xs ho hp hb => by
    obtain ⟨a, c, rfl, hv⟩ := valsAt_own ho (l := l.map textD) (by simp) (Nat.le_refl _) (fun i hi => ((hp i hi (by simpa using hi)).below hb).mono hb.size)
    exact ⟨a, c, rfl, by have := own_cap ho; simpa using this, hv, hb⟩)
  go_enter Tryd.func31, Tryd.ntmps31
  go_wp2_with fail
  go_simp
  go_loopw [3, 4] (fun s i wr => ∃ (k : Nat) (xs : List Value), k ≤ l.length ∧ i = .int .i64 k ∧ wr.ownsRow w.heap.size 30 13 s k xs ∧ Hid (PartsAt w w.heap.size N (l.map textD) k xs) ∧ Hid (Below w.heap.size w wr)) (fun _ i _ => l.length - (intOf i).toNat)
  case atStart => exact ⟨0, [], by omega, rfl, World.ownsRow_nil _ _ _ _, Lib.hid (fun j _ hj => absurd hj (by omega)), Lib.hid (Below.refl _ _)⟩
  case round =>
    obtain ⟨w2, rfl⟩ : ∃ w2, w2 = wr := ⟨wr, rfl⟩
    obtain ⟨k, xs, hk, rfl, hown, HP, HB⟩ := hrel
    have HO := Lib.hid hown
    clear hown
    by_cases hlt : k < l.length
    · obtain ⟨b, rfl, hb, hget⟩ : ∃ b, a = some ⟨b, 0, none⟩ ∧ b < w.heap.size ∧ ∀ (j : Nat) x, l[j]? = some x → w.cell? ⟨b, j, none⟩ = some (.string x) := by
        rcases HA.out with h | h
        · rw [h] at hlt; simp at hlt
        · exact h
      have hlk : l[k]? = some l[k] := List.getElem?_eq_getElem hlt
      obtain ⟨x, hx⟩ : ∃ x, l[k] = x := ⟨_, rfl⟩
      have c1 : w2.cell? ⟨b, k, none⟩ = some (.string x) := by
        rw [HB.out.cell (p := ⟨b, k, none⟩) hb, ← hx]
        exact hget k _ hlk
      have hsz : x.size ≤ N := by rw [← hx]; exact HLS.out _ (List.getElem_mem hlt)
      have HT := Lib.hid (show ∀ h : k < (l.map textD).length, ValD.At w w.heap.size N (l.map textD)[k] (textR x) from fun h => by
        rw [List.getElem_map, hx]
        exact textD_at hsz)
      have hlen1 : (textR x).length = 13 := rfl
      clear hx hget hlk hsz
      go_wp2_with ((with_reducible show wpList _ _ _ (⟨some 18, _, _, _, _, _⟩ :: _) _ _); refine wpList_append_own _ rfl _ _ 27 rfl w.heap.size 30 i0 (.agg z0) 13 168 Tryd.underlying27 HI.out HZ0.out HZ1.out HZ2.out HZS.out (by decide) _ _ _ rfl (HO.out.alloc _) ⟨w2.heap.size, 0, none⟩ 1 1 (textR x) rfl rfl ?c1 ?c2 ?c3 ?c4 ?c5 ?_)
      case c1 =>
        intro j u hj
        rw [addr_add', World.cell?_alloc_new]
        simpa [textR] using hj
      case c2 => intro u hu; simp [textR] at hu; rcases hu with rfl | rfl | rfl | rfl | rfl | rfl <;> rfl
      case c3 => unfold maxLen; omega
      case c4 => omega
      case c5 => have := HB.out.size; rw [World.size_alloc]; omega
      intro v2 w3 hown3 hgrow _
      have HO3 := Lib.hid hown3
      have HB3 := Lib.hid (grown_below HB.out hgrow (fun q hq => (HO.out.lt q hq).1))
      clear hgrow hown3
      go_wp2
      go_roundw
      case rel => exact ⟨k + 1, xs ++ textR x, by omega, by go_num, HO3.out, Lib.hid (HP.out.snoc HO.out.1 (by simpa using hlt) (HT.out (by simpa using hlt))), HB3⟩
      case measure => simp [intOf]; omega
    · obtain rfl : k = l.length := by omega
      have HE := Lib.hid (HF.out _ _ _ HO.out HP.out HB.out)
      go_wp2_with fail
      go_ret
      exact HE.out
end Go.Proofs.YtmbldgcbnkhabaaDoor

/- Parts of rows, joined strings. -/
namespace Go.Proofs.YtmbldgcbnkhabaaDoor
open Go.RowKit

theorem inter_nil : ∀ l : List (List UInt8), ([] : List UInt8).intercalate l = l.flatten
  | [] => rfl
  | [a] => by simp [List.intercalate]
  | a :: b :: r => by
    have h := inter_nil (b :: r)
    unfold List.intercalate at h ⊢
    rw [List.intersperse_cons_cons, List.flatten_cons, List.flatten_cons, h]
    rfl
theorem join_flat : ∀ l : List ByteArray, (joinD l).data.toList = (l.map (·.data.toList)).flatten
  | [] => rfl
  | a :: r => by
    have h := join_flat r
    show (a ++ joinD r).data.toList = _
    rw [List.map_cons, List.flatten_cons, ← h]
    simp
theorem join_eq (l : List ByteArray) : (⟨(Lib.join (l.map (·.data.toList)) []).toArray⟩ : ByteArray) = joinD l := by
  unfold Lib.join
  rw [inter_nil, ← join_flat]
theorem join_len (l : List ByteArray) : (Lib.join (l.map (·.data.toList)) []).length = (joinD l).size := by
  unfold Lib.join
  rw [inter_nil, ← join_flat]
  simp

/-- Strings in a row that need not begin at the block's beginning. -/
def StrsIn (w : World) (l : List ByteArray) (a : Option Addr) : Prop := l = [] ∨ ∃ b o, a = some ⟨b, o, none⟩ ∧ b < w.heap.size ∧ ∀ (j : Nat) x, l[j]? = some x → w.cell? ⟨b, o + j, none⟩ = some (.string x)
theorem strs_part {w : World} {l : List ByteArray} {b : Nat} (i m : Nat) (hl : l ≠ []) (h : StrsAt w l (some ⟨b, 0, none⟩)) : StrsIn w ((l.drop i).take m) (some ⟨b, i, none⟩) := by
  rcases h with h | ⟨g, h1, h2, h3⟩
  · exact absurd h hl
  · injection h1 with h1
    injection h1 with h1 _ _
    subst h1
    refine .inr ⟨b, i, rfl, h2, fun j x hx => ?_⟩
    by_cases hj : j < m
    · rw [List.getElem?_take_of_lt hj, List.getElem?_drop] at hx
      exact h3 _ _ hx
    · rw [List.getElem?_take_eq_none (by omega)] at hx
      cases hx
theorem vals_part {w : World} {B N b o : Nat} {l : List ValD} (i m : Nat) (hl : l ≠ []) (h : ValsAt w B N l (some ⟨b, o, none⟩)) : ValsAt w B N ((l.drop i).take m) (some ⟨b, o + i * 13, none⟩) := by
  obtain ⟨b', o', h1, h2, h3⟩ := h.get hl
  injection h1 with h1
  injection h1 with h1 h4 _
  subst h1 h4
  refine ValsAt_of' h2 _ _ (fun j hj => ?_)
  have hj2 : i + j < l.length := by
    rw [List.length_take, List.length_drop] at hj
    omega
  obtain ⟨cs, g1, g2⟩ := h3 (i + j) hj2
  refine ⟨cs, by rw [show o + i * 13 + j * 13 = o + (i + j) * 13 by omega]; exact g1, ?_⟩
  have e : ((l.drop i).take m)[j] = l[i + j] := by
    rw [List.getElem_take, List.getElem_drop]
  rw [e]
  exact g2
theorem strs_slice {w : World} {l : List ByteArray} {a : Option Addr} (i m : Nat) (h : StrsAt w l a) : StrsIn w ((l.drop i).take m) (a.map fun x => x.add i) := by
  by_cases hl : l = []
  · subst hl
    exact .inl (by simp)
  · have h2 := h
    rcases h with h | ⟨g, h1, _, _⟩
    · exact absurd h hl
    · subst h1
      have := strs_part i m hl h2
      rw [Option.map_some, addr_add', Nat.zero_add]
      exact this
theorem vals_slice {w : World} {B N : Nat} {l : List ValD} {a : Option Addr} (i m : Nat) (h : ValsAt w B N l a) : ValsAt w B N ((l.drop i).take m) (a.map fun x => x.add (i * 13)) := by
  by_cases hl : l = []
  · subst hl
    rw [List.drop_nil, List.take_nil]
    trivial
  · obtain ⟨b, o, rfl, _, _⟩ := h.get hl
    rw [Option.map_some, addr_add']
    exact vals_part i m hl h
theorem join_prog (l : List ByteArray) (a : Option Addr) (c n : Nat) (w : World) (hn : l.length = n) (hc : n ≤ c) (hlen : n ≤ 140737488355328) (hsz : (joinD l).size ≤ 140737488355328) (h : StrsIn w l a) :
    Calls Tryd.prog 29 #[.slice a n c, .string ⟨#[]⟩] w (fun e w' => e = .returned (.string (joinD l)) ∧ Below w.heap.size w w') := by
  subst hn
  rcases h with rfl | ⟨b, o, rfl, h2, h3⟩
  · refine (Tryd.strings_Join_none a c ⟨#[]⟩ w).mono ?_
    rintro e w' ⟨rfl, rfl⟩
    exact ⟨rfl, Below.refl _ _⟩
  · refine (Tryd.strings_Join b o c l ⟨#[]⟩ w h3 h2 hlen hc (by show (Lib.join _ []).length ≤ _; rw [join_len]; exact hsz)).mono ?_
    rintro e w' ⟨rfl, hb⟩
    exact ⟨by show Ending.returned (.string ⟨(Lib.join _ []).toArray⟩) = _; rw [join_eq], hb⟩
theorem list_prog_n (n : Nat) (hn : n + 1 ≤ 65536) (l : List ValD) (m : Nat) (hm : l.length = m) (hf : ∀ x ∈ l, fitsV n x) (a : Option Addr) (c : Nat) (w : World) (B N : Nat) (hN : N ≤ 4294967296) (hl : m ≤ N) (hB : B ≤ w.heap.size) (h : ValsAt w B N l a) :
    Calls Tryd.prog 30 #[.slice a m c] w (ResR B N (resD (lisD l)) w) := by
  subst hm
  exact list_prog n hn l hf a c w B N hN hl hB h
end Go.Proofs.YtmbldgcbnkhabaaDoor
