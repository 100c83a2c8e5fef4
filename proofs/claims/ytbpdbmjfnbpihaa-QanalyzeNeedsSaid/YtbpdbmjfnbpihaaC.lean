/- The reference's Boundaries and Valid (datakitref03): they return, and write nothing that was there. -/
import Derived.Test.YtbpdbmjfnbpihaaB
import Derived.OwnWalk
namespace Go.Proofs.Ytbpdbmjfnbpihaa
open Go.RowKit

theorem info3 : (Try.prog.info? 3).map (fun i => (i.zero, i.size, i.bytes)) = some (some (.int .i64 0), 1, 8) := by kernel_rfl

def SomeOk (w : World) (e : Ending) (w' : World) : Prop := ∃ (v : Value) (b : Bool), e = .returned (.tuple #[v, .bool b]) ∧ Below w.heap.size w w'

theorem ownsRow_lit (w : World) (e : TypeId) (x : Value) : (w.alloc (.cells #[x] e)).ownsRow w.heap.size e 1 (.slice (some ⟨w.heap.size, 0, none⟩) 1 1) 1 [x] :=
  ⟨by simp, .inr ⟨w.heap.size, 1, #[x], rfl, Nat.le_refl _, heap_alloc_new w _, Nat.le_refl _, by decide, by simp, by simp⟩⟩

theorem ownsRow_below {w w' : World} {base : Nat} {e : TypeId} {size : Nat} {v : Value} {n : Nat} {xs : List Value} (h : w.ownsRow base e size v n xs) (hb : Below w.heap.size w w') : w'.ownsRow base e size v n xs := by
  obtain ⟨h1, h2⟩ := h
  refine ⟨h1, ?_⟩
  rcases h2 with h2 | ⟨g, cap, cur, hv, hg, hh, r⟩
  · exact Or.inl h2
  · exact Or.inr ⟨g, cap, cur, hv, hg, by rw [hb.block g (Array.getElem?_eq_some_iff.1 hh).1]; exact hh, r⟩

set_option maxHeartbeats 800000 in
theorem bounds_any (s : ByteArray) (w : World) (hs : s.size ≤ 1099511627776) : Calls Try.prog 17 #[.string s] w (SomeOk w) := by
  obtain ⟨i0, hi, hz0, hz1, hz2⟩ := info_parts info3
  have hs' : s.size ≤ maxLen := by unfold maxLen; omega
  go_enter Try.func17, Try.ntmps17
  go_wp2_with fail
  go_loopw [4, 5] (fun v i wr => ∃ (k : Nat) (xs : List Int), k ≤ s.size ∧ i = .int .i64 k ∧ xs.length ≤ k + 1 ∧ wr.ownsRow w.heap.size 3 1 v xs.length (xs.map (.int .i64)) ∧ Below w.heap.size w wr) (fun _ i _ => s.size - (intOf i).toNat)
  case atStart => exact ⟨0, [0], by omega, rfl, by simp, ownsRow_lit _ _ _, (Below.refl _ _).alloc (Nat.le_refl _) _⟩
  case round =>
    obtain ⟨k, xs, hk, rfl, hxs, hown, hbel⟩ := hrel
    by_cases hlt : k < s.size
    · go_wp2_with fail
      refine (dec_any s k _ hs' hlt).mono ?_
      rintro e w1 ⟨r, n, hn, rfl, hb⟩
      have hown1 := ownsRow_below hown hb
      have hbel1 := hbel.trans (hb.mono hbel.size)
      clear hown hbel hb
      rcases hn with rfl | ⟨hn1, hn2⟩
      · go_wp2_with fail
        go_ret2
        exact ⟨_, _, rfl, hbel1⟩
      · obtain ⟨n, rfl⟩ := Int.eq_ofNat_of_zero_le (Int.le_of_lt hn1)
        have hn2' : (k : Int) + (n : Int) ≤ (s.size : Int) := hn2
        have hn1' : 0 < n := by omega
        clear hn1 hn2
        go_wp2_with (at_builtin; refine wpList_append_own _ rfl _ _ 52 rfl w.heap.size 3 i0 (.int .i64 0) 1 8 Try.underlying52 hi hz0 hz1 hz2 rfl (by decide) _ _ _ rfl (hown1.alloc _) ⟨w1.heap.size, 0, none⟩ 1 1 [.int .i64 (k + n)] rfl rfl ?c1 ?c2 ?c3 ?c4 ?c5 ?_)
        case c1 =>
          intro j u hj
          match j, hj with
          | 0, hj => simp at hj; subst hj; simp [Addr.add]
        case c2 => intro u hu; simp at hu; subst hu; rfl
        case c3 => unfold maxLen; omega
        case c4 => omega
        case c5 => have := hbel1.size; simp; omega
        intro v' w2 hown2 hgrow _
        have hbel2 : Below w.heap.size w w2 := (hbel1.alloc hbel1.size _).grown hgrow (by have := hbel1.size; simp; omega) (fun k hk => (hown1.lt k hk).1)
        clear hgrow hown1 hbel1
        have HO := Lib.hid hown2
        clear hown2
        go_wp2
        go_roundw
        case rel => exact ⟨k + n, xs ++ [(k : Int) + (n : Int)], by omega, by go_num, by simp; omega, by simpa using HO.out, hbel2⟩
        case measure => simp [intOf]; omega
    · go_wp2_with fail
      go_ret2
      exact ⟨_, _, rfl, hbel⟩
theorem valid_any (s : ByteArray) (w : World) (hs : s.size ≤ 1099511627776) : Calls Try.prog 12 #[.string s] w fun e w' => ∃ b, e = .returned (.bool b) ∧ Below w.heap.size w w' := by
  go_enter Try.func12, Try.ntmps12
  go_wp2_with (go_at_call 17; refine (bounds_any _ _ hs).mono ?_; rintro e w' ⟨v, b, rfl, hb⟩)
  go_ret
  exact ⟨_, rfl, hb⟩
end Go.Proofs.Ytbpdbmjfnbpihaa
