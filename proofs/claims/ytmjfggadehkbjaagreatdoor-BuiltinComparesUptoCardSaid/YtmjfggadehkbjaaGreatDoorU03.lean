/- The functions of the reference's UTF-8 (datakitref03): they return, and write nothing that was there. -/
import Derived.Test.YtmjfggadehkbjaaGreatDoorProg
import Derived.WalkKit
import Derived.WalkSpells
import Derived.WalkLawsBesides
import Derived.LoopTactic
import Derived.BigQuiet
import Derived.Deep.QuietTactic
import Derived.Lib.Hide
import Derived.Laws.BytesArg
import Derived.OwnWalk
namespace Go.Proofs.YtmjfggadehkbjaaGreatDoor
open Go.RowKit

theorem ret_bool {a b : Bool} (h : a = b) : Ending.returned (.bool a) = .returned (.bool b) := by rw [h]
theorem ret_int {k : IntKind} {a b : Int} (h : a = b) : Ending.returned (.int k a) = .returned (.int k b) := by rw [h]
def SomeBool (w : World) (e : Ending) (w' : World) : Prop := ∃ (b : Bool), e = .returned (.bool b) ∧ Below w.heap.size w w'
def SomeInt (w : World) (e : Ending) (w' : World) : Prop := ∃ (k : Int), e = .returned (.int .i64 k) ∧ Below w.heap.size w w'
theorem below_drewN (w : World) (m : Nat) : Below w.heap.size w (w.drewN m) := ⟨rfl, rfl, rfl, Nat.le_refl _, fun _ _ => rfl⟩
theorem bcell {W w1 : World} (hb : Below W.heap.size W w1) : (∀ b o, b < W.heap.size → w1.cell? ⟨b, o, none⟩ = W.cell? ⟨b, o, none⟩) ∧ (∀ b o, b < W.heap.size → w1.frozen? ⟨b, o, none⟩ = W.frozen? ⟨b, o, none⟩) :=
  ⟨fun b o h => hb.cell (p := ⟨b, o, none⟩) h, fun b o h => hb.frozen (p := ⟨b, o, none⟩) h⟩
theorem conv_new (w : World) (xs : List Int) (n : Nat) (hn : xs.length = n) :
    (convert 26 9 (.slice (some ⟨w.heap.size, 0, none⟩) n n)).run Tryz.prog (w.alloc (.cells (xs.map (Value.int .u8)).toArray 5)) = .ok (.string (strOfNums xs)) (w.alloc (.cells (xs.map (Value.int .u8)).toArray 5)) := by
  refine run_convert_bytes_arg _ 26 5 Tryz.underlying26 Tryz.underlying5 w.heap.size 0 n n xs hn (fun i hi => ?_) 9 Tryz.underlying9
  have hi' : i < xs.length := by omega
  rw [World.cell?_alloc_new]
  simp [List.getElem?_eq_getElem hi']
@[go_sem] theorem conv_new1 (w : World) (a : Int) : (convert 26 9 (.slice (some ⟨w.heap.size, 0, none⟩) 1 1)).run Tryz.prog (w.alloc (.cells #[.int .u8 a] 5)) = .ok (.string (strOfNums [a])) (w.alloc (.cells #[.int .u8 a] 5)) := conv_new w [a] 1 rfl
@[go_sem] theorem conv_new2 (w : World) (a b : Int) : (convert 26 9 (.slice (some ⟨w.heap.size, 0, none⟩) 2 2)).run Tryz.prog (w.alloc (.cells #[.int .u8 a, .int .u8 b] 5)) = .ok (.string (strOfNums [a, b])) (w.alloc (.cells #[.int .u8 a, .int .u8 b] 5)) := conv_new w [a, b] 2 rfl
@[go_sem] theorem conv_new3 (w : World) (a b c : Int) : (convert 26 9 (.slice (some ⟨w.heap.size, 0, none⟩) 3 3)).run Tryz.prog (w.alloc (.cells #[.int .u8 a, .int .u8 b, .int .u8 c] 5)) = .ok (.string (strOfNums [a, b, c])) (w.alloc (.cells #[.int .u8 a, .int .u8 b, .int .u8 c] 5)) := conv_new w [a, b, c] 3 rfl
@[go_sem] theorem conv_new4 (w : World) (a b c d : Int) : (convert 26 9 (.slice (some ⟨w.heap.size, 0, none⟩) 4 4)).run Tryz.prog (w.alloc (.cells #[.int .u8 a, .int .u8 b, .int .u8 c, .int .u8 d] 5)) = .ok (.string (strOfNums [a, b, c, d])) (w.alloc (.cells #[.int .u8 a, .int .u8 b, .int .u8 c, .int .u8 d] 5)) := conv_new w [a, b, c, d] 4 rfl

def charB (r : Int) : Bool := decide (0 ≤ r) && decide (r ≤ 1114111) && (decide (r < 55296) || decide (57343 < r))

theorem char_any (r : Int) (w : World) : Calls Tryz.prog 217 #[.int .i64 r] w fun e w' => e = .returned (.bool (charB r)) ∧ w = w' := by
  by_cases h0 : 0 ≤ r <;> by_cases h1 : r ≤ 1114111 <;> by_cases h2 : r < 55296 <;> by_cases h3 : 57343 < r <;>
  · have hc : charB r = (decide (0 ≤ r) && decide (r ≤ 1114111) && (decide (r < 55296) || decide (57343 < r))) := rfl
    have HC := Lib.hid hc
    clear hc
    go_enter Tryz.func217, Tryz.ntmps217
    go_wp2
    go_ret
    refine ⟨ret_bool ?_, rfl⟩
    rw [HC.out]
    simp [*]

def SomeStr (P : ByteArray → Int → Prop) (w : World) (e : Ending) (w' : World) : Prop := ∃ (s : ByteArray) (k : Int), P s k ∧ e = .returned (.tuple #[.string s, .int .i64 k]) ∧ Below w.heap.size w w'

set_option maxHeartbeats 400000 in
theorem enc_any (r : Int) (w : World) : Calls Tryz.prog 212 #[.int .i64 r] w (SomeStr (fun _ _ => True) w) := by
  cases hb : charB r
  · go_enter Tryz.func212, Tryz.ntmps212
    go_wp2_with (go_at_call 217; refine (char_any _ _).mono ?_; rintro e w' ⟨rfl, rfl⟩)
    go_ret2
    exact ⟨_, _, trivial, rfl, Below.refl _ _⟩
  · go_enter Tryz.func212, Tryz.ntmps212
    go_wp2_with (go_at_call 217; refine (char_any _ _).mono ?_; rintro e w' ⟨rfl, rfl⟩)
    all_goals go_ret2
    all_goals exact ⟨_, _, trivial, rfl, (Below.refl _ _).alloc (Nat.le_refl _) _⟩

/-- A number of bytes that fits: from the offset on there are so many. -/
def SomeNum (s : ByteArray) (i : Int) (w : World) (e : Ending) (w' : World) : Prop := ∃ (r n : Int), (n = 0 ∨ 0 < n ∧ i + n ≤ s.size) ∧ e = .returned (.tuple #[.int .i64 r, .int .i64 n]) ∧ Below w.heap.size w w'

set_option maxHeartbeats 800000 in
theorem dec_any (s : ByteArray) (i : Nat) (w : World) (hs : s.size ≤ maxLen) (hi : i < s.size) : Calls Tryz.prog 205 #[.string s, .int .i64 i] w (SomeNum s i w) := by
  unfold maxLen at hs
  go_enter Tryz.func205, Tryz.ntmps205
  go_wp2_with fail
  all_goals first
    | (go_ret2; exact ⟨0, 0, .inl rfl, rfl, Below.refl _ _⟩)
    | skip
  all_goals
    go_simp
    go_loop [8, 9] (fun r k => ∃ (x : Int) (n : Nat), r = .int .i64 x ∧ k = .int .i64 n ∧ 1 ≤ n ∧ n ≤ 4) (fun _ k => 4 - (intOf k).toNat)
    case atStart => exact ⟨_, 1, rfl, rfl, by omega, by omega⟩
    case round =>
      obtain ⟨x, n, rfl, rfl, h1, h2⟩ := hrel
      go_wp2_with fail
      all_goals first
        | (go_round
           case rel => exact ⟨_, n + 1, rfl, by go_num, by omega, by omega⟩
           case measure => simp [intOf]; omega)
        | (refine (enc_any _ _).mono ?_
           rintro e w' ⟨s', k', -, rfl, hb⟩
           have hb' := Lib.hid hb
           clear hb
           go_wp2_with fail
           all_goals (go_ret2; first | exact ⟨0, 0, .inl rfl, rfl, hb'.out⟩ | exact ⟨_, _, .inr ⟨by omega, by omega⟩, rfl, hb'.out⟩))

theorem info3 : (Tryz.prog.info? 3).map (fun i => (i.zero, i.size, i.bytes)) = some (some (.int .i64 0), 1, 8) := by kernel_rfl

def SomeOk (w : World) (e : Ending) (w' : World) : Prop := ∃ (v : Value) (b : Bool), e = .returned (.tuple #[v, .bool b]) ∧ Below w.heap.size w w'

theorem ownsRow_lit (w : World) (e : TypeId) (x : Value) : (w.alloc (.cells #[x] e)).ownsRow w.heap.size e 1 (.slice (some ⟨w.heap.size, 0, none⟩) 1 1) 1 [x] :=
  ⟨by simp, .inr ⟨w.heap.size, 1, #[x], rfl, Nat.le_refl _, heap_alloc_new w _, Nat.le_refl _, by decide, by simp, by simp⟩⟩

theorem ownsRow_below {w w' : World} {base : Nat} {e : TypeId} {size : Nat} {v : Value} {n : Nat} {xs : List Value} (h : w.ownsRow base e size v n xs) (hb : Below w.heap.size w w') : w'.ownsRow base e size v n xs := by
  obtain ⟨h1, h2⟩ := h
  refine ⟨h1, ?_⟩
  rcases h2 with h2 | ⟨g, cap, cur, hv, hg, hh, r⟩
  · exact Or.inl h2
  · exact Or.inr ⟨g, cap, cur, hv, hg, by rw [hb.block g (Array.getElem?_eq_some_iff.1 hh).1]; exact hh, r⟩

set_option maxRecDepth 100000 in
set_option maxHeartbeats 800000 in
theorem bounds_any (s : ByteArray) (w : World) (hs : s.size ≤ 1099511627776) : Calls Tryz.prog 185 #[.string s] w (SomeOk w) := by
  obtain ⟨i0, hi, hz0, hz1, hz2⟩ := info_parts info3
  have hs' : s.size ≤ maxLen := by unfold maxLen; omega
  go_enter Tryz.func185, Tryz.ntmps185
  go_wp2_with fail
  go_loopw [4, 5] (fun v i wr => ∃ (k : Nat) (xs : List Int), k ≤ s.size ∧ i = .int .i64 k ∧ xs.length ≤ k + 1 ∧ wr.ownsRow w.heap.size 3 1 v xs.length (xs.map (.int .i64)) ∧ Below w.heap.size w wr) (fun _ i _ => s.size - (intOf i).toNat)
  case atStart => exact ⟨0, [0], by omega, rfl, by simp, ownsRow_lit _ _ _, (Below.refl _ _).alloc (Nat.le_refl _) _⟩
  case round =>
    obtain ⟨k, xs, hk, rfl, hxs, hown, hbel⟩ := hrel
    by_cases hlt : k < s.size
    · go_wp2_with fail
      refine (dec_any s k _ hs' hlt).mono ?_
      rintro e w1 ⟨r, n, hn, rfl, hb⟩
      have hown1 := ownsRow_below hown hb
      have hbel1 := hbel.trans (hb.mono hbel.size)
      clear hown hbel hb
      rcases hn with rfl | ⟨hn1, hn2⟩
      · go_wp2_with fail
        go_ret2
        exact ⟨_, _, rfl, hbel1⟩
      · obtain ⟨n, rfl⟩ := Int.eq_ofNat_of_zero_le (Int.le_of_lt hn1)
        have hn2' : (k : Int) + (n : Int) ≤ (s.size : Int) := hn2
        have hn1' : 0 < n := by omega
        clear hn1 hn2
        go_wp2_with (at_builtin; refine wpList_append_own _ rfl _ _ 111 rfl w.heap.size 3 i0 (.int .i64 0) 1 8 Tryz.underlying111 hi hz0 hz1 hz2 rfl (by decide) _ _ _ rfl (hown1.alloc _) ⟨w1.heap.size, 0, none⟩ 1 1 [.int .i64 (k + n)] rfl rfl ?c1 ?c2 ?c3 ?c4 ?c5 ?_)
        case c1 =>
          intro j u hj
          match j, hj with
          | 0, hj => simp at hj; subst hj; simp [Addr.add]
        case c2 => intro u hu; simp at hu; subst hu; rfl
        case c3 => unfold maxLen; omega
        case c4 => omega
        case c5 => have := hbel1.size; simp; omega
        intro v' w2 hown2 hgrow _
        have hbel2 : Below w.heap.size w w2 := (hbel1.alloc hbel1.size _).grown hgrow (by have := hbel1.size; simp; omega) (fun k hk => (hown1.lt k hk).1)
        clear hgrow hown1 hbel1
        have HO := Lib.hid hown2
        clear hown2
        go_wp2
        go_roundw
        case rel => exact ⟨k + n, xs ++ [(k : Int) + (n : Int)], by omega, by go_num, by simp; omega, by simpa using HO.out, hbel2⟩
        case measure => simp [intOf]; omega
    · go_wp2_with fail
      go_ret2
      exact ⟨_, _, rfl, hbel⟩
theorem valid_any (s : ByteArray) (w : World) (hs : s.size ≤ 1099511627776) : Calls Tryz.prog 142 #[.string s] w fun e w' => ∃ b, e = .returned (.bool b) ∧ Below w.heap.size w w' := by
  go_enter Tryz.func142, Tryz.ntmps142
  go_wp2_with (go_at_call 185; refine (bounds_any _ _ hs).mono ?_; rintro e w' ⟨v, b, rfl, hb⟩)
  go_ret
  exact ⟨_, rfl, hb⟩
end Go.Proofs.YtmjfggadehkbjaaGreatDoor
