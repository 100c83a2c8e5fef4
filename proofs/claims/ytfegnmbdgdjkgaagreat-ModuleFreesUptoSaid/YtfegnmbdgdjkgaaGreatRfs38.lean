/- The reference's lists of names (datakitref38.more, has, insert). -/
import Derived.Test.YtfegnmbdgdjkgaaGreatNms38
import Derived.Test.YtfegnmbdgdjkgaaGreatFrv38
import Derived.Sort.Walk0
namespace Go.Proofs.YtfegnmbdgdjkgaaGreat
open Go.RowKit

def NmsR (lo : Nat) (l : List ByteArray) (w : World) (e : Ending) (w' : World) : Prop := ∃ (a : Option Addr) (c : Nat), e = .returned (.slice a l.length c) ∧ l.length ≤ c ∧ c ≤ maxLen ∧ NmsAt w' lo w'.heap.size l a ∧ Below w.heap.size w w'
theorem nms_ret {lo : Nat} {l : List ByteArray} {w w' : World} {v : Value} {n : Nat} {xs : List Value} (h : w'.ownsRow w.heap.size 9 1 v n xs) (hlo : lo ≤ w.heap.size) (hn : n = l.length) (hx : xs = l.map .string) (hb : Below w.heap.size w w') : NmsR lo l w (.returned v) w' := by
  subst hn hx
  obtain ⟨a, c, rfl, h1, h2, h3⟩ := nms_own h hlo
  exact ⟨a, c, rfl, h1, h2, h3, hb⟩
theorem grown_below {w w1 w2 : World} {row : Option Nat} {o : Obj} (hb : Below w.heap.size w w1) (h : (w1.alloc o).grownBy w2 row) (hr : ∀ k, row = some k → w.heap.size ≤ k) : Below w.heap.size w w2 :=
  (hb.alloc hb.size o).grown h (by have := hb.size; simp; omega) hr
theorem nms_one (l : List ByteArray) : ∀ u ∈ l.map Value.string, u.oneCell' = true := fun u hu => by obtain ⟨x, _, rfl⟩ := List.mem_map.1 hu; rfl

set_option maxRecDepth 100000 in
set_option maxHeartbeats 1600000 in
theorem more_r (l : List ByteArray) (s : ByteArray) (a : Option Addr) (c : Nat) (w : World) (lo1 lo B : Nat) (hl : l.length ≤ 1099511627776) (hB : B ≤ w.heap.size) (hlo : lo ≤ w.heap.size) (h : NmsAt w lo1 B l a) :
    Calls Tryz.prog 79 #[.slice a l.length c, .string s] w (NmsR lo (l ++ [s]) w) := by
  obtain ⟨i0, hi, hz0, hz1, hz2⟩ := info_parts infoSt
  have HI := Lib.hid hi
  have HZ0 := Lib.hid hz0
  have HZ1 := Lib.hid hz1
  have HZ2 := Lib.hid hz2
  have HA := Lib.hid h
  clear hi hz0 hz1 hz2 h
  go_enter Tryz.func79, Tryz.ntmps79
  go_wp2_with (at_builtin; refine wpList_append_src rfl _ _ 38 rfl w.heap.size 9 i0 (.string ⟨#[]⟩) 1 16 Tryz.underlying38 HI.out HZ0.out HZ1.out HZ2.out rfl (by decide) _ _ _ rfl (World.ownsRow_made w #[] 0 (Nat.le_refl _) (Nat.zero_le _) rfl) a l.length c (l.map .string) rfl ?c1 ?c2 (nms_one l) ?c4 ?c5 ?c6 ?_)
  case c1 => simp
  case c2 => exact (HA.out.keep (Kept.of_below ((belowBox w _).mono hB))).src
  case c4 => unfold maxLen; omega
  case c5 => omega
  case c6 => simp
  intro v1 w1 hown1 hgrow1
  have HO1 := Lib.hid hown1
  have HB1 := Lib.hid (show Below w.heap.size w w1 from (belowBox w _).grown hgrow1 (by simp) (by intro k hk; simp [Value.ownBlock] at hk; omega))
  clear hown1 hgrow1
  go_wp2_with (at_builtin; refine wpList_append_src rfl _ _ 38 rfl w.heap.size 9 i0 (.string ⟨#[]⟩) 1 16 Tryz.underlying38 HI.out HZ0.out HZ1.out HZ2.out rfl (by decide) _ _ _ rfl (HO1.out.alloc _) (some ⟨w1.heap.size, 0, none⟩) 1 1 [.string s] rfl rfl (src_new w1 [.string s] 9 1) ?c3 ?c4 ?c5 ?c6 ?_)
  case c3 => intro u hu; simp at hu; subst hu; rfl
  case c4 => unfold maxLen; omega
  case c5 => omega
  case c6 => have := HB1.out.size; simp; omega
  intro v2 w2 hown2 hgrow2
  have HB2 := Lib.hid (grown_below HB1.out hgrow2 (fun k hk => (HO1.out.lt k hk).1))
  have HO2 := Lib.hid hown2
  clear hown2 hgrow2
  go_wp2
  go_ret
  exact nms_ret HO2.out hlo (by simp) (by simp) HB2.out

theorem memB_all {l : List ByteArray} {s : ByteArray} (h : ∀ j (hj : j < l.length), (l[j].toList == s.toList) = false) : memB l s = false := by
  unfold memB
  rw [List.any_eq_false]
  intro t ht
  obtain ⟨j, hj, rfl⟩ := List.getElem_of_mem ht
  rw [h j hj]; simp
theorem memB_one {l : List ByteArray} {s : ByteArray} {j : Nat} (hj : j < l.length) (h : (l[j].toList == s.toList) = true) : memB l s = true := by
  unfold memB
  rw [List.any_eq_true]
  exact ⟨l[j], List.getElem_mem hj, h⟩
set_option maxRecDepth 100000 in
theorem has_r (l : List ByteArray) (s : ByteArray) (a : Option Addr) (c : Nat) (w : World) (lo B : Nat) (hl : l.length ≤ 1099511627776) (h : NmsAt w lo B l a) :
    Calls Tryz.prog 27 #[.slice a l.length c, .string s] w (fun e w' => e = .returned (.bool (memB l s)) ∧ w = w') := by
  have HA := Lib.hid h
  clear h
  go_enter Tryz.func27, Tryz.ntmps27
  go_wp2_with fail
  go_simp
  go_loopw [5] (fun i wr => ∃ k : Nat, k ≤ l.length ∧ i = .int .i64 k ∧ Hid (∀ j (hj : j < l.length), j < k → (l[j].toList == s.toList) = false) ∧ wr = w) (fun i _ => l.length - (intOf i).toNat)
  case atStart => exact ⟨0, by omega, rfl, Lib.hid (fun j _ hj => absurd hj (by omega)), rfl⟩
  case round =>
    obtain ⟨k, hk, rfl, HN, rfl⟩ := hrel
    by_cases hlt : k < l.length
    · obtain ⟨b, rfl, _, _, hget⟩ := HA.out.get (by intro h; simp [h] at hlt)
      have e0 := hget k hlt
      clear hget
      cases he : (l[k].toList == s.toList)
      · have HN2 := Lib.hid (show ∀ j (hj : j < l.length), j < k + 1 → (l[j].toList == s.toList) = false from fun j hj hjk => by
          by_cases hjk2 : j = k
          · subst hjk2; exact he
          · exact HN.out j hj (by omega))
        go_wp2_with fail
        go_roundw
        case rel => exact ⟨k + 1, by omega, by go_num, HN2, trivial⟩
        case measure => simp [intOf]; omega
      · have HR := Lib.hid (memB_one hlt he)
        go_wp2_with fail
        go_ret
        exact ⟨ret_bool HR.out.symm, rfl⟩
    · have HR := Lib.hid (memB_all (l := l) (s := s) fun j hj => HN.out j hj (by omega))
      go_wp2_with fail
      go_ret
      exact ⟨ret_bool HR.out.symm, rfl⟩

theorem less_true {a b : ByteArray} (h : Op.bytesLess a.toList b.toList = true) : a.data.toList < b.data.toList := by
  rw [Go.Proofs.bytesLess_eq, decide_eq_true_eq, ByteArray.toList_eq, ByteArray.toList_eq] at h
  exact h
theorem less_false {a b : ByteArray} (h : Op.bytesLess a.toList b.toList = false) : ¬ a.data.toList < b.data.toList := by
  rw [Go.Proofs.bytesLess_eq, decide_eq_false_iff_not, ByteArray.toList_eq, ByteArray.toList_eq] at h
  exact h
theorem same_true {a b : ByteArray} (h : (a.toList == b.toList) = true) : a.data.toList = b.data.toList := by
  rw [ByteArray.toList_eq, ByteArray.toList_eq] at h
  simpa using h
theorem same_false {a b : ByteArray} (h : (a.toList == b.toList) = false) : ¬ a.data.toList = b.data.toList := by
  rw [ByteArray.toList_eq, ByteArray.toList_eq] at h
  simpa using h
theorem src_take {w : World} {b : Nat} {l : List ByteArray} (h : ∀ (j : Nat) (hj : j < l.length), w.cell? ⟨b, j, none⟩ = some (.string l[j])) (k : Nat) : SrcAt w (some ⟨b, 0, none⟩) k ((l.take k).map .string) := by
  refine ⟨fun h => (by cases h), fun ad e j u hu => ?_⟩
  cases e
  rw [List.getElem?_map, List.getElem?_take] at hu
  split at hu
  · obtain ⟨x, hx, rfl⟩ := Option.map_eq_some_iff.1 hu
    obtain ⟨hj, rfl⟩ := List.getElem?_eq_some_iff.1 hx
    rw [addr_add', Nat.zero_add]
    exact h j hj
  · cases hu
theorem src_drop {w : World} {b : Nat} {l : List ByteArray} (h : ∀ (j : Nat) (hj : j < l.length), w.cell? ⟨b, j, none⟩ = some (.string l[j])) (k m : Nat) : SrcAt w (some ⟨b, k, none⟩) m ((l.drop k).map .string) := by
  refine ⟨fun h => (by cases h), fun ad e j u hu => ?_⟩
  cases e
  rw [List.getElem?_map, List.getElem?_drop] at hu
  obtain ⟨x, hx, rfl⟩ := Option.map_eq_some_iff.1 hu
  obtain ⟨hj, rfl⟩ := List.getElem?_eq_some_iff.1 hx
  rw [addr_add']
  exact h (k + j) hj
theorem src_none (w : World) (a : Option Addr) : SrcAt w a 0 [] := ⟨fun _ => rfl, fun ad _ j u hu => by simp at hu⟩
theorem cells_kept {w w' : World} {B b : Nat} {l : List ByteArray} (h : ∀ (j : Nat) (hj : j < l.length), w.cell? ⟨b, j, none⟩ = some (.string l[j])) (hb : Below B w w') (hlt : b < B) : ∀ (j : Nat) (hj : j < l.length), w'.cell? ⟨b, j, none⟩ = some (.string l[j]) := fun j hj => (hb.cell hlt).trans (h j hj)

set_option maxRecDepth 100000 in
set_option maxHeartbeats 3200000 in
theorem insert_r (l : List ByteArray) (s : ByteArray) (a : Option Addr) (c : Nat) (w : World) (lo B : Nat) (hl : l.length ≤ 1099511627776) (hc1 : l.length ≤ c) (hc2 : c ≤ maxLen) (hB : B ≤ w.heap.size) (hlo : lo ≤ w.heap.size) (h : NmsAt w lo B l a) (hnil : l = [] → a = none ∧ c = 0) :
    Calls Tryz.prog 28 #[.slice a l.length c, .string s] w (NmsR lo (insR l s) w) := by
  obtain ⟨i0, hi, hz0, hz1, hz2⟩ := info_parts infoSt
  have HI := Lib.hid hi
  have HZ0 := Lib.hid hz0
  have HZ1 := Lib.hid hz1
  have HZ2 := Lib.hid hz2
  have HA := Lib.hid h
  clear hi hz0 hz1 hz2 h
  by_cases hn : l = []
  · obtain ⟨rfl, rfl⟩ := hnil hn
    subst hn
    clear hnil hc1 hc2
    go_enter Tryz.func28, Tryz.ntmps28
    go_wp2_with fail
    go_simp
    go_loopw [5] (fun i wr => i = .int .i64 0 ∧ wr = w) (fun _ _ => 0)
    case atStart => exact ⟨rfl, rfl⟩
    case round =>
      obtain ⟨rfl, rfl⟩ := hrel
      have HR := Lib.hid (show insR [] s = [s] from rfl)
      go_wp2_with (at_builtin; refine wpList_append_src rfl _ _ 38 rfl wr.heap.size 9 i0 (.string ⟨#[]⟩) 1 16 Tryz.underlying38 HI.out HZ0.out HZ1.out HZ2.out rfl (by decide) _ _ _ rfl (World.ownsRow_made wr #[] 0 (Nat.le_refl _) (Nat.zero_le _) rfl) none 0 _ [] rfl rfl (src_none _ _) (by simp) ?c4 ?c5 ?c6 ?_)
      case c4 => unfold maxLen; omega
      case c5 => omega
      case c6 => simp
      intro v1 w1 hown1 hgrow1
      have HO1 := Lib.hid hown1
      have HB1 := Lib.hid (show Below wr.heap.size wr w1 from (belowBox wr _).grown hgrow1 (by simp) (by intro k hk; simp [Value.ownBlock] at hk; omega))
      clear hown1 hgrow1
      go_wp2_with (at_builtin; refine wpList_append_src rfl _ _ 38 rfl wr.heap.size 9 i0 (.string ⟨#[]⟩) 1 16 Tryz.underlying38 HI.out HZ0.out HZ1.out HZ2.out rfl (by decide) _ _ _ rfl (HO1.out.alloc _) (some ⟨w1.heap.size, 0, none⟩) 1 1 [.string s] rfl rfl (src_new w1 [.string s] 9 1) ?c3 ?c4 ?c5 ?c6 ?_)
      case c3 => intro u hu; simp at hu; subst hu; rfl
      case c4 => unfold maxLen; omega
      case c5 => omega
      case c6 => have := HB1.out.size; simp; omega
      intro v2 w2 hown2 hgrow2
      have HB2 := Lib.hid (grown_below HB1.out hgrow2 (fun k hk => (HO1.out.lt k hk).1))
      have HO2 := Lib.hid hown2
      clear hown2 hgrow2
      go_wp2_with (at_builtin; refine wpList_append_src rfl _ _ 38 rfl wr.heap.size 9 i0 (.string ⟨#[]⟩) 1 16 Tryz.underlying38 HI.out HZ0.out HZ1.out HZ2.out rfl (by decide) _ _ _ rfl HO2.out none 0 _ [] rfl rfl (src_none _ _) (by simp) ?c4 ?c5 ?c6 ?_)
      case c4 => unfold maxLen; omega
      case c5 => omega
      case c6 => exact HB2.out.size
      intro v3 w3 hown3 hgrow3
      have HB3 := Lib.hid (show Below wr.heap.size wr w3 from HB2.out.grown hgrow3 HB2.out.size (fun k hk => (HO2.out.lt k hk).1))
      have HO3 := Lib.hid hown3
      clear hown3 hgrow3
      go_wp2
      go_ret
      exact nms_ret HO3.out hlo (by rw [HR.out]; rfl) (by rw [HR.out]; rfl) HB3.out
  obtain ⟨b, rfl, _, hb, hget⟩ := HA.out.get hn
  have HG := Lib.hid hget
  clear hget hnil
  go_enter Tryz.func28, Tryz.ntmps28
  go_wp2_with fail
  go_simp
  go_loopw [5] (fun i wr => ∃ k : Nat, k ≤ l.length ∧ i = .int .i64 k ∧ Hid (∀ j (hj : j < l.length), j < k → l[j].data.toList < s.data.toList) ∧ wr = w) (fun i _ => l.length - (intOf i).toNat)
  case atStart => exact ⟨0, by omega, rfl, Lib.hid (fun j _ hj => absurd hj (by omega)), rfl⟩
  case round =>
    obtain ⟨k, hk, rfl, HN, rfl⟩ := hrel
    by_cases hlt : k < l.length
    case pos =>
      have e0 := HG.out k hlt
      cases hbl : Op.bytesLess l[k].toList s.toList
      case true =>
        have HN2 := Lib.hid (show ∀ j (hj : j < l.length), j < k + 1 → l[j].data.toList < s.data.toList from fun j hj hjk => by
          by_cases hjk2 : j = k
          · subst hjk2; exact less_true hbl
          · exact HN.out j hj (by omega))
        go_wp2_with fail
        go_roundw
        case rel => exact ⟨k + 1, by omega, by go_num, HN2, trivial⟩
        case measure => simp [intOf]; omega
      cases he : (l[k].toList == s.toList)
      case true =>
        have HR := Lib.hid (show insR l s = l by
          rw [insR_at l s k hk HN.out (fun _ => less_false hbl), dif_pos hlt, if_pos (same_true he)])
        go_wp2_with fail
        go_ret
        exact ⟨some ⟨b, 0, none⟩, c, by rw [HR.out]; rfl, by rw [HR.out]; exact hc1, hc2, by rw [HR.out]; exact HA.out.mono hB, Below.refl _ _⟩
      have HR := Lib.hid (show insR l s = l.take k ++ s :: l.drop k by
        rw [insR_at l s k hk HN.out (fun _ => less_false hbl), dif_pos hlt, if_neg (same_false he)])
      have hkc : k ≤ c := by omega
      have HL3 := Lib.hid (show (l.drop k).length = l.length - k from List.length_drop ..)
      go_wp2_with (at_builtin; refine wpList_append_src rfl _ _ 38 rfl wr.heap.size 9 i0 (.string ⟨#[]⟩) 1 16 Tryz.underlying38 HI.out HZ0.out HZ1.out HZ2.out rfl (by decide) _ _ _ rfl (World.ownsRow_made wr #[] 0 (Nat.le_refl _) (Nat.zero_le _) rfl) (some ⟨b, 0, none⟩) k _ ((l.take k).map .string) rfl ?c1 ?c2 (nms_one _) ?c4 ?c5 ?c6 ?_)
      case c1 => rw [List.length_map, List.length_take, Nat.min_eq_left hk, Nat.mul_one]
      case c2 => exact src_take (cells_kept HG.out ((belowBox wr _).mono hB) hb) k
      case c4 => unfold maxLen; omega
      case c5 => omega
      case c6 => simp
      intro v1 w1 hown1 hgrow1
      have HO1 := Lib.hid hown1
      have HB1 := Lib.hid (show Below wr.heap.size wr w1 from (belowBox wr _).grown hgrow1 (by simp) (by intro k hk; simp [Value.ownBlock] at hk; omega))
      clear hown1 hgrow1
      go_wp2_with (at_builtin; refine wpList_append_src rfl _ _ 38 rfl wr.heap.size 9 i0 (.string ⟨#[]⟩) 1 16 Tryz.underlying38 HI.out HZ0.out HZ1.out HZ2.out rfl (by decide) _ _ _ rfl (HO1.out.alloc _) (some ⟨w1.heap.size, 0, none⟩) 1 1 [.string s] rfl rfl (src_new w1 [.string s] 9 1) ?c3 ?c4 ?c5 ?c6 ?_)
      case c3 => intro u hu; simp at hu; subst hu; rfl
      case c4 => unfold maxLen; omega
      case c5 => omega
      case c6 => have := HB1.out.size; simp; omega
      intro v2 w2 hown2 hgrow2
      have HB2 := Lib.hid (grown_below HB1.out hgrow2 (fun k hk => (HO1.out.lt k hk).1))
      have HO2 := Lib.hid hown2
      clear hown2 hgrow2
      go_wp2_with (at_builtin; refine wpList_append_src rfl _ _ 38 rfl wr.heap.size 9 i0 (.string ⟨#[]⟩) 1 16 Tryz.underlying38 HI.out HZ0.out HZ1.out HZ2.out rfl (by decide) _ _ _ rfl HO2.out _ _ _ ((l.drop k).map .string) rfl ?c1 ?c2 (nms_one _) ?c4 ?c5 ?c6 ?_)
      case c1 => simp
      all_goals first
        | (unfold maxLen; omega)
        | omega
        | exact HB2.out.size
        | (exact src_drop (cells_kept HG.out (HB2.out.mono hB) hb) k _)
        | (rw [← List.map_drop]; exact src_drop (cells_kept HG.out (HB2.out.mono hB) hb) k _)
        | (rw [List.drop_of_length_le (by simp; omega), show l.length - k = 0 by omega]; exact src_none _ _)
        | skip
      intro v3 w3 hown3 hgrow3
      have HB3 := Lib.hid (show Below wr.heap.size wr w3 from HB2.out.grown hgrow3 HB2.out.size (fun k hk => (HO2.out.lt k hk).1))
      have HO3 := Lib.hid hown3
      clear hown3 hgrow3
      go_wp2
      go_ret
      exact nms_ret HO3.out hlo (by rw [HR.out]; simp; omega) (by rw [HR.out]; simp) HB3.out
    case neg =>
      have HR := Lib.hid (show insR l s = l ++ [s] by
        rw [insR_at l s k hk HN.out (fun h => absurd h hlt), dif_neg hlt])
      obtain rfl : k = l.length := by omega
      clear hlt hk
      go_wp2_with (at_builtin; refine wpList_append_src rfl _ _ 38 rfl wr.heap.size 9 i0 (.string ⟨#[]⟩) 1 16 Tryz.underlying38 HI.out HZ0.out HZ1.out HZ2.out rfl (by decide) _ _ _ rfl (World.ownsRow_made wr #[] 0 (Nat.le_refl _) (Nat.zero_le _) rfl) (some ⟨b, 0, none⟩) l.length _ (l.map .string) rfl ?d1 ?d2 (nms_one _) ?d4 ?d5 ?d6 ?_)
      case d1 => simp
      case d2 => exact (HA.out.keep (Kept.of_below ((belowBox wr _).mono hB))).src
      case d4 => unfold maxLen; omega
      case d5 => omega
      case d6 => simp
      intro v1 w1 hown1 hgrow1
      have HO1 := Lib.hid hown1
      have HB1 := Lib.hid (show Below wr.heap.size wr w1 from (belowBox wr _).grown hgrow1 (by simp) (by intro k hk; simp [Value.ownBlock] at hk; omega))
      clear hown1 hgrow1
      go_wp2_with (at_builtin; refine wpList_append_src rfl _ _ 38 rfl wr.heap.size 9 i0 (.string ⟨#[]⟩) 1 16 Tryz.underlying38 HI.out HZ0.out HZ1.out HZ2.out rfl (by decide) _ _ _ rfl (HO1.out.alloc _) (some ⟨w1.heap.size, 0, none⟩) 1 1 [.string s] rfl rfl (src_new w1 [.string s] 9 1) ?d3 ?d4 ?d5 ?d6 ?_)
      case d3 => intro u hu; simp at hu; subst hu; rfl
      case d4 => unfold maxLen; omega
      case d5 => omega
      case d6 => have := HB1.out.size; simp; omega
      intro v2 w2 hown2 hgrow2
      have HB2 := Lib.hid (grown_below HB1.out hgrow2 (fun k hk => (HO1.out.lt k hk).1))
      have HO2 := Lib.hid hown2
      clear hown2 hgrow2
      go_wp2_with (at_builtin; refine wpList_append_src rfl _ _ 38 rfl wr.heap.size 9 i0 (.string ⟨#[]⟩) 1 16 Tryz.underlying38 HI.out HZ0.out HZ1.out HZ2.out rfl (by decide) _ _ _ rfl HO2.out _ 0 _ [] rfl rfl (src_none _ _) (by simp) (by unfold maxLen; omega) (by omega) HB2.out.size ?_)
      all_goals
        intro v3 w3 hown3 hgrow3
        have HB3 := Lib.hid (show Below wr.heap.size wr w3 from HB2.out.grown hgrow3 HB2.out.size (fun k hk => (HO2.out.lt k hk).1))
        have HO3 := Lib.hid hown3
        clear hown3 hgrow3
        go_wp2
        go_ret
        exact nms_ret HO3.out hlo (by rw [HR.out]; simp) (by rw [HR.out]; simp) HB3.out
end Go.Proofs.YtfegnmbdgdjkgaaGreat
