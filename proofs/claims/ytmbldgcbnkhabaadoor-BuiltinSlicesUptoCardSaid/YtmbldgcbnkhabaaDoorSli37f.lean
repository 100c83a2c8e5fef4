/- builtin.characters: the characters of a valid string. -/
import Derived.Test.YtmbldgcbnkhabaaDoorVal07e
import Derived.Test.YtmbldgcbnkhabaaDoorCharP
import Derived.Test.YtmbldgcbnkhabaaDoorShelf
import Derived.Lib.DecodeN
import Derived.Lib.RuneCountTail
namespace Go.Proofs.YtmbldgcbnkhabaaDoor
open Go.RowKit

/-- Strings in a row. -/
def StrsAt (w : World) (l : List ByteArray) (a : Option Addr) : Prop := l = [] ∨ ∃ b, a = some ⟨b, 0, none⟩ ∧ b < w.heap.size ∧ ∀ (j : Nat) x, l[j]? = some x → w.cell? ⟨b, j, none⟩ = some (.string x)
theorem StrsAt.below {w w' : World} {l : List ByteArray} {a : Option Addr} (h : StrsAt w l a) (hb : Below w.heap.size w w') : StrsAt w' l a := by
  rcases h with h | ⟨b, h1, h2, h3⟩
  · exact .inl h
  · exact .inr ⟨b, h1, Nat.lt_of_lt_of_le h2 hb.size, fun j x hx => by rw [hb.cell (p := ⟨b, j, none⟩) h2]; exact h3 j x hx⟩
def StsR (l : List ByteArray) (w : World) (e : Ending) (w' : World) : Prop := ∃ (a : Option Addr) (c : Nat), e = .returned (.slice a l.length c) ∧ l.length ≤ c ∧ c ≤ maxLen ∧ StrsAt w' l a ∧ Below w.heap.size w w'
theorem sts_own {w w' : World} {base : Nat} {v : Value} {l : List ByteArray} (h : w'.ownsRow base 9 1 v l.length (l.map .string)) (hb : Below w.heap.size w w') : StsR l w (.returned v) w' := by
  rcases h.2 with ⟨rfl, h0⟩ | ⟨g, cap, cur, rfl, hg, hh, hn, hm, hs, ht⟩
  · obtain rfl := List.length_eq_zero_iff.1 h0
    exact ⟨none, 0, rfl, Nat.le_refl _, by unfold maxLen; omega, .inl rfl, hb⟩
  · refine ⟨_, _, rfl, hn, hm, .inr ⟨g, rfl, (Array.getElem?_eq_some_iff.1 hh).1, fun j x hx => ?_⟩, hb⟩
    have := h.cells (g := g) rfl j (.string x) (by rw [List.getElem?_map, hx]; rfl)
    rw [addr_add', Nat.zero_add] at this
    exact this
theorem tabs_below {w w' : World} (h : Lib.Utf8Tabs 0 1 w) (hb : Below w.heap.size w w') : Lib.Utf8Tabs 0 1 w' := by
  refine ⟨fun c hc => ?_, fun i hi => ?_⟩
  · have h1 := h.1 c hc
    rw [hb.cell (World.block_lt_of_cell? w _ h1)]; exact h1
  · have h1 := h.2 i hi
    exact ⟨by rw [hb.cell (World.block_lt_of_cell? w _ h1.1)]; exact h1.1, by rw [hb.cell (World.block_lt_of_cell? w _ h1.2)]; exact h1.2⟩
theorem decodeGo_len {s : ByteArray} {p : Nat} (hp : p < s.size) (h : charAt s p ≠ 0) : (Lib.decodeGo (s.extract p s.size)).2 = charAt s p := by
  have e : Lib.decodeGo (s.extract p s.size) = Utf8.decode s p := by
    unfold Lib.decodeGo
    rw [if_neg (by rw [ByteArray.size_extract]; omega), Lib.tail_decode]
    rfl
  rw [e]
  exact charAt_decode h
theorem infoS : (Tryd.prog.info? 9).map (fun i => (i.zero, i.size, i.bytes)) = some (some (.string ⟨#[]⟩), 1, 16) := by kernel_rfl
theorem take_map_snoc {l : List ByteArray} {k : Nat} (h : k < l.length) : ((l.take k).map Value.string) ++ [.string l[k]] = (l.take (k + 1)).map .string := by
  rw [List.take_succ_eq_append_getElem h, List.map_append]
  rfl

set_option maxRecDepth 100000 in
set_option maxHeartbeats 1600000 in
theorem chars_prog (s : ByteArray) (w : World) (hs : s.size ≤ 1099511627776) (hT : Lib.Utf8Tabs 0 1 w) (hv : validS s = true) :
    Calls Tryd.prog 26 #[.string s] w (StsR (charsD s) w) := by
  obtain ⟨i0, hi, hz0, hz1, hz2⟩ := info_parts infoS
  have HT := Lib.hid hT
  have HV := Lib.hid hv
  have HLN := Lib.hid (chars_len s)
  have hcc := chars_count hv
  obtain ⟨l, hl⟩ : ∃ l, charsD s = l := ⟨_, rfl⟩
  have HL := Lib.hid hl
  rw [hl] at hcc ⊢
  clear hT hl
  go_enter Tryd.func26, Tryd.ntmps26
  go_wp2_with fail
  go_simp
  go_loopw [3, 4] (fun v i wr => ∃ (k p : Nat), k ≤ l.length ∧ Hid (posD s k = p) ∧ i = .int .i64 p ∧ wr.ownsRow w.heap.size 9 1 v k ((l.take k).map .string) ∧ Hid (Below w.heap.size w wr)) (fun _ i _ => s.size - (intOf i).toNat)
  case atStart => exact ⟨0, 0, by omega, Lib.hid (pos_zero hv), rfl, World.ownsRow_nil _ _ _ _, Lib.hid (Below.refl _ _)⟩
  case round =>
    obtain ⟨w1, rfl⟩ : ∃ w1, w1 = wr := ⟨wr, rfl⟩
    obtain ⟨k, p, hk, HP, rfl, hown, HB⟩ := hrel
    have HO := Lib.hid hown
    clear hown
    by_cases hlt : p < s.size
    · have hk2 : k < (spansD s).length := by
        rcases Nat.lt_or_ge k (spansD s).length with h | h
        · exact h
        · exfalso
          have h1 := HLN.out
          rw [HL.out] at h1
          have h2 := pos_end s
          rw [show (spansD s).length = k by omega, HP.out] at h2
          omega
      have hk3 : k < l.length := by
        have h1 := HLN.out
        rw [HL.out] at h1
        omega
      obtain ⟨g1, -, g3, g4⟩ := pos_step hv hk2
      have HX := Lib.hid (show l[k] = s.extract p (posD s (k + 1)) by
        have h := chars_get hv (k := k) (by rw [HL.out]; exact hk3)
        rw [HP.out] at h
        rw [← h]
        simp only [HL.out])
      rw [HP.out] at g1 g3
      have HW := Lib.hid (decodeGo_len hlt g1)
      obtain ⟨n, hn⟩ : ∃ n, charAt s p = n := ⟨_, rfl⟩
      rw [hn] at g1 g3 HW
      rw [g3] at HX g4
      have HG := Lib.hid g3
      clear g3 hn hk2
      go_wp2_with fail
      refine (Tryd.utf8_DecodeRuneInString _ w1 (tabs_below HT.out HB.out)).mono ?_
      rintro e w2 ⟨rfl, hb2⟩
      have HB2 := Lib.hid (belowThen HB.out hb2)
      have HO2 := Lib.hid (ownsRow_below HO.out hb2)
      clear hb2
      generalize hd1 : (Lib.decodeGo (s.extract p s.size)).1 = r at *
      generalize hd2 : (Lib.decodeGo (s.extract p s.size)).2 = m at *
      clear hd1 hd2
      obtain rfl : m = n := HW.out
      go_wp2_with (at_builtin; refine wpList_append_own _ rfl _ _ 59 rfl w.heap.size 9 i0 (.string ⟨#[]⟩) 1 16 Tryd.underlying59 hi hz0 hz1 hz2 rfl (by decide) _ _ _ rfl (HO2.out.alloc _) ⟨w2.heap.size, 0, none⟩ 1 1 [.string (s.extract p (p + m))] rfl rfl ?c1 ?c2 ?c3 ?c4 ?c5 ?_)
      case c1 =>
        intro j u hj
        match j, hj with
        | 0, hj => simp at hj; subst hj; simp [Addr.add]
      case c2 => intro u hu; simp at hu; subst hu; rfl
      case c3 => unfold maxLen; omega
      case c4 => omega
      case c5 => have := HB2.out.size; simp; omega
      intro v' w3 hown3 hgrow _
      have HB3 := Lib.hid (show Below w.heap.size w w3 from (HB2.out.alloc HB2.out.size _).grown hgrow (by have := HB2.out.size; simp; omega) (fun k hk => (HO2.out.lt k hk).1))
      have HO3 := Lib.hid hown3
      clear hown3 hgrow
      go_wp2
      go_roundw
      case rel => exact ⟨k + 1, p + m, by omega, HG, by go_num, by rw [← take_map_snoc hk3, HX.out, List.map_take]; exact HO3.out, HB3⟩
      case measure => simp [intOf]; omega
    · have hkl : k = l.length := by
        have h1 := HLN.out
        rw [HL.out] at h1
        rcases Nat.lt_or_ge k (spansD s).length with h | h
        · exfalso
          obtain ⟨g1, _, g3, g4⟩ := pos_step hv h
          rw [HP.out] at g1 g3
          omega
        · omega
      subst hkl
      go_wp2_with fail
      go_ret
      exact sts_own (by simpa using HO.out) HB.out
end Go.Proofs.YtmbldgcbnkhabaaDoor

/- datakitref37.Chars: the characters of a valid string. -/
namespace Go.Proofs.YtmbldgcbnkhabaaDoor
open Go.RowKit

theorem grown_below {w w1 w2 : World} {row : Option Nat} {o : Obj} (hb : Below w.heap.size w w1) (h : (w1.alloc o).grownBy w2 row) (hr : ∀ k, row = some k → w.heap.size ≤ k) : Below w.heap.size w w2 :=
  (hb.alloc hb.size o).grown h (by have := hb.size; simp; omega) hr

set_option maxRecDepth 100000 in
set_option maxHeartbeats 3200000 in
theorem chars_ref (s : ByteArray) (w : World) (hs : s.size ≤ 1099511627776) (hv : validS s = true) :
    Calls Tryd.prog 32 #[.string s] w (StsR (charsD s) w) := by
  obtain ⟨i0, hi, hz0, hz1, hz2⟩ := info_parts infoS
  have hcc := chars_count hv
  obtain ⟨l, hl⟩ : ∃ l, charsD s = l := ⟨_, rfl⟩
  have HL := Lib.hid hl
  have HLN := Lib.hid (show l.length = (spansD s).length by rw [← hl]; exact chars_len s)
  rw [hl] at hcc ⊢
  clear hl
  -- the next step
  have HS := Lib.hid (show ∀ k p q, k < l.length → posD s k = p → posD s (k + 1) = q → p < q ∧ q ≤ s.size ∧ charAt s p ≠ 0 ∧ q = p + charAt s p from fun k p q h1 h2 h3 => by
    obtain ⟨g1, _, g3, g4⟩ := pos_step hv (k := k) (by rw [← HLN.out]; exact h1)
    rw [h2] at g1 g3
    rw [h3] at g3 g4
    exact ⟨by omega, g4, g1, g3⟩)
  have HE := Lib.hid (show posD s l.length = s.size by rw [HLN.out]; exact pos_end s)
  have HG := Lib.hid (show ∀ k p q, (h : k < l.length) → posD s k = p → posD s (k + 1) = q → l[k] = s.extract p q from fun k p q h h2 h3 => by
    have h := chars_get hv (k := k) (by rw [HL.out]; exact h)
    rw [h2, h3] at h
    rw [← h]
    simp only [HL.out])
  go_enter Tryd.func32, Tryd.ntmps32
  go_wp2_with fail
  go_simp
  go_loopw [3, 4, 5] (fun v f t wr => ∃ (k p q i : Nat), ((k < l.length ∧ p < i ∧ i ≤ q ∧ q ≤ s.size) ∨ (k = l.length ∧ i = s.size + 1 ∧ p = s.size)) ∧ Hid (posD s k = p) ∧ Hid (posD s (k + 1) = q) ∧ f = .int .i64 p ∧ t = .int .i64 i ∧ wr.ownsRow w.heap.size 9 1 v k ((l.take k).map .string) ∧ Hid (Below w.heap.size w wr)) (fun _ _ t _ => s.size + 1 - (intOf t).toNat)
  case atStart =>
    refine ⟨0, 0, posD s 1, 1, ?_, Lib.hid (pos_zero hv), Lib.hid rfl, rfl, rfl, World.ownsRow_nil _ _ _ _, Lib.hid (Below.refl _ _)⟩
    by_cases h0 : 0 < l.length
    · obtain ⟨a1, a2, -, -⟩ := HS.out 0 0 (posD s 1) h0 (pos_zero hv) rfl
      exact .inl ⟨h0, by omega, by omega, a2⟩
    · have h1 : l.length = 0 := by omega
      have h2 := HE.out
      rw [h1, pos_zero hv] at h2
      exact .inr (by omega)
  case round =>
    obtain ⟨w1, rfl⟩ : ∃ w1, w1 = wr := ⟨wr, rfl⟩
    obtain ⟨k, p, q, i, hcase, HP, HQ, rfl, rfl, hown, HB⟩ := hrel
    have HO := Lib.hid hown
    clear hown
    rcases hcase with ⟨g1, g2, g3, g4⟩ | ⟨g1, g2, g3⟩
    · have HX := Lib.hid (HG.out k p q g1 HP.out HQ.out)
      obtain ⟨h1, h2, h3, h4⟩ := HS.out k p q g1 HP.out HQ.out
      by_cases hq : i = q
      · -- a character ends here
        subst hq
        clear g3
        have HC := Lib.hid h4
        clear h3 h4
        have hb : i = s.size ∨ (i < s.size ∧ k + 1 < l.length ∧ i + 1 ≤ posD s (k + 1 + 1) ∧ posD s (k + 1 + 1) ≤ s.size ∧ (byteAt s i < 128 ∨ 194 ≤ byteAt s i)) := by
          by_cases he : i = s.size
          · exact .inl he
          · have hk : k + 1 < l.length := by
              rcases Nat.lt_or_ge (k + 1) l.length with h | h
              · exact h
              · exfalso
                have h6 := HE.out
                rw [show l.length = k + 1 by omega, HQ.out] at h6
                exact he h6
            obtain ⟨m1, m2, m3, m4⟩ := HS.out (k + 1) i _ hk HQ.out rfl
            obtain ⟨_, _, m5, _⟩ := charAt_parts m3
            exact .inr ⟨by omega, hk, by omega, m2, m5⟩
        rcases hb with rfl | ⟨b1, b2, b3, b4, b5⟩
        · have hk : k + 1 = l.length := by
            rcases Nat.lt_or_ge (k + 1) l.length with h | h
            · exfalso
              have := HS.out (k + 1) _ _ h HQ.out rfl
              omega
            · omega
          have HK := Lib.hid hk
          clear hk
          go_wp2_with (at_builtin; refine wpList_append_own _ rfl _ _ 59 rfl w.heap.size 9 i0 (.string ⟨#[]⟩) 1 16 Tryd.underlying59 hi hz0 hz1 hz2 rfl (by decide) _ _ _ rfl (HO.out.alloc _) ⟨w1.heap.size, 0, none⟩ 1 1 [.string (s.extract p s.size)] rfl rfl ?c1 ?c2 ?c3 ?c4 ?c5 ?_)
          case c1 =>
            intro j u hj
            match j, hj with
            | 0, hj => simp at hj; subst hj; simp [Addr.add]
          case c2 => intro u hu; simp at hu; subst hu; rfl
          case c3 => unfold maxLen; omega
          case c4 => omega
          case c5 => have := HB.out.size; simp; omega
          intro v' w3 hown3 hgrow _
          have HB3 := Lib.hid (grown_below HB.out hgrow (fun k hk => (HO.out.lt k hk).1))
          have HO3 := Lib.hid hown3
          clear hown3 hgrow
          go_wp2
          go_roundw
          case rel => exact ⟨k + 1, s.size, _, s.size + 1, .inr ⟨HK.out, rfl, rfl⟩, HQ, Lib.hid rfl, rfl, by go_num, by rw [← take_map_snoc g1, HX.out, List.map_take]; exact HO3.out, HB3⟩
          case measure => simp [intOf] <;> omega
        · have hb0 := byteAt_eq s i b1
          obtain ⟨x, hx⟩ : ∃ x, byteAt s i = x := ⟨_, rfl⟩
          rw [hx] at hb0 b5
          have hi9 : ((i : Int) == (s.size : Int)) = false := by simp; omega
          clear hx
          rcases b5 with b5 | b5
          all_goals
            go_wp2_with (at_builtin; refine wpList_append_own _ rfl _ _ 59 rfl w.heap.size 9 i0 (.string ⟨#[]⟩) 1 16 Tryd.underlying59 hi hz0 hz1 hz2 rfl (by decide) _ _ _ rfl (HO.out.alloc _) ⟨w1.heap.size, 0, none⟩ 1 1 [.string (s.extract p i)] rfl rfl ?c1 ?c2 ?c3 ?c4 ?c5 ?_)
            case c1 =>
              intro j u hj
              match j, hj with
              | 0, hj => simp at hj; subst hj; simp [Addr.add]
            case c2 => intro u hu; simp at hu; subst hu; rfl
            case c3 => unfold maxLen; omega
            case c4 => omega
            case c5 => have := HB.out.size; simp; omega
            intro v' w3 hown3 hgrow _
            have HB3 := Lib.hid (grown_below HB.out hgrow (fun k hk => (HO.out.lt k hk).1))
            have HO3 := Lib.hid hown3
            clear hown3 hgrow
            go_wp2
            go_roundw
            case rel => exact ⟨k + 1, i, _, i + 1, .inl ⟨b2, by omega, b3, b4⟩, HQ, Lib.hid rfl, rfl, by go_num, by rw [← take_map_snoc g1, HX.out, List.map_take]; exact HO3.out, HB3⟩
            case measure => simp [intOf] <;> omega
      · -- within a character
        obtain ⟨_, _, _, m⟩ := charAt_parts h3
        have m1 := m (i - p) (by omega) (by omega)
        rw [show p + (i - p) = i by omega] at m1
        obtain ⟨m1, m2⟩ := m1
        have hlt : i < s.size := by omega
        have hb0 := byteAt_eq s i hlt
        obtain ⟨x, hx⟩ : ∃ x, byteAt s i = x := ⟨_, rfl⟩
        rw [hx] at hb0 m1 m2
        have hi9 : ((i : Int) == (s.size : Int)) = false := by simp; omega
        have HC := Lib.hid h4
        have HM := Lib.hid (show i + 1 ≤ q by omega)
        clear hx m h4 h3 hq
        go_wp2
        go_roundw
        case rel => exact ⟨k, p, q, i + 1, .inl ⟨g1, by omega, HM.out, g4⟩, HP, HQ, rfl, by go_num, HO.out, HB⟩
        case measure => simp [intOf] <;> omega
    · subst g1 g2 g3
      go_wp2_with fail
      go_ret
      exact sts_own (by simpa using HO.out) HB.out
end Go.Proofs.YtmbldgcbnkhabaaDoor
