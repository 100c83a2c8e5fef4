/- The functions of the reference's UTF-8 (datakitref03): they return, and write nothing that was there. -/
import Derived.Test.YtbpdbmjfnbpihaaA
import Derived.Laws.BytesArg
namespace Go.Proofs.Ytbpdbmjfnbpihaa
open Go.RowKit

theorem conv_new (w : World) (xs : List Int) (n : Nat) (hn : xs.length = n) :
    (convert 30 9 (.slice (some ⟨w.heap.size, 0, none⟩) n n)).run Try.prog (w.alloc (.cells (xs.map (Value.int .u8)).toArray 5)) = .ok (.string (strOfNums xs)) (w.alloc (.cells (xs.map (Value.int .u8)).toArray 5)) := by
  refine run_convert_bytes_arg _ 30 5 Try.underlying30 Try.underlying5 w.heap.size 0 n n xs hn (fun i hi => ?_) 9 Try.underlying9
  have hi' : i < xs.length := by omega
  rw [World.cell?_alloc_new]
  simp [List.getElem?_eq_getElem hi']
@[go_sem] theorem conv_new1 (w : World) (a : Int) : (convert 30 9 (.slice (some ⟨w.heap.size, 0, none⟩) 1 1)).run Try.prog (w.alloc (.cells #[.int .u8 a] 5)) = .ok (.string (strOfNums [a])) (w.alloc (.cells #[.int .u8 a] 5)) := conv_new w [a] 1 rfl
@[go_sem] theorem conv_new2 (w : World) (a b : Int) : (convert 30 9 (.slice (some ⟨w.heap.size, 0, none⟩) 2 2)).run Try.prog (w.alloc (.cells #[.int .u8 a, .int .u8 b] 5)) = .ok (.string (strOfNums [a, b])) (w.alloc (.cells #[.int .u8 a, .int .u8 b] 5)) := conv_new w [a, b] 2 rfl
@[go_sem] theorem conv_new3 (w : World) (a b c : Int) : (convert 30 9 (.slice (some ⟨w.heap.size, 0, none⟩) 3 3)).run Try.prog (w.alloc (.cells #[.int .u8 a, .int .u8 b, .int .u8 c] 5)) = .ok (.string (strOfNums [a, b, c])) (w.alloc (.cells #[.int .u8 a, .int .u8 b, .int .u8 c] 5)) := conv_new w [a, b, c] 3 rfl
@[go_sem] theorem conv_new4 (w : World) (a b c d : Int) : (convert 30 9 (.slice (some ⟨w.heap.size, 0, none⟩) 4 4)).run Try.prog (w.alloc (.cells #[.int .u8 a, .int .u8 b, .int .u8 c, .int .u8 d] 5)) = .ok (.string (strOfNums [a, b, c, d])) (w.alloc (.cells #[.int .u8 a, .int .u8 b, .int .u8 c, .int .u8 d] 5)) := conv_new w [a, b, c, d] 4 rfl

def charB (r : Int) : Bool := decide (0 ≤ r) && decide (r ≤ 1114111) && (decide (r < 55296) || decide (57343 < r))

theorem char_any (r : Int) (w : World) : Calls Try.prog 39 #[.int .i64 r] w fun e w' => e = .returned (.bool (charB r)) ∧ w = w' := by
  by_cases h0 : 0 ≤ r <;> by_cases h1 : r ≤ 1114111 <;> by_cases h2 : r < 55296 <;> by_cases h3 : 57343 < r <;>
  · have hc : charB r = (decide (0 ≤ r) && decide (r ≤ 1114111) && (decide (r < 55296) || decide (57343 < r))) := rfl
    have HC := Lib.hid hc
    clear hc
    go_enter Try.func39, Try.ntmps39
    go_wp2
    go_ret
    refine ⟨ret_bool ?_, rfl⟩
    rw [HC.out]
    simp [*]

def SomeStr (P : ByteArray → Int → Prop) (w : World) (e : Ending) (w' : World) : Prop := ∃ (s : ByteArray) (k : Int), P s k ∧ e = .returned (.tuple #[.string s, .int .i64 k]) ∧ Below w.heap.size w w'

set_option maxHeartbeats 400000 in
theorem enc_any (r : Int) (w : World) : Calls Try.prog 34 #[.int .i64 r] w (SomeStr (fun _ _ => True) w) := by
  cases hb : charB r
  · go_enter Try.func34, Try.ntmps34
    go_wp2_with (go_at_call 39; refine (char_any _ _).mono ?_; rintro e w' ⟨rfl, rfl⟩)
    go_ret2
    exact ⟨_, _, trivial, rfl, Below.refl _ _⟩
  · go_enter Try.func34, Try.ntmps34
    go_wp2_with (go_at_call 39; refine (char_any _ _).mono ?_; rintro e w' ⟨rfl, rfl⟩)
    all_goals go_ret2
    all_goals exact ⟨_, _, trivial, rfl, (Below.refl _ _).alloc (Nat.le_refl _) _⟩

/-- A number of bytes that fits: from the offset on there are so many. -/
def SomeNum (s : ByteArray) (i : Int) (w : World) (e : Ending) (w' : World) : Prop := ∃ (r n : Int), (n = 0 ∨ 0 < n ∧ i + n ≤ s.size) ∧ e = .returned (.tuple #[.int .i64 r, .int .i64 n]) ∧ Below w.heap.size w w'

set_option maxHeartbeats 800000 in
theorem dec_any (s : ByteArray) (i : Nat) (w : World) (hs : s.size ≤ maxLen) (hi : i < s.size) : Calls Try.prog 23 #[.string s, .int .i64 i] w (SomeNum s i w) := by
  unfold maxLen at hs
  go_enter Try.func23, Try.ntmps23
  go_wp2_with fail
  all_goals first
    | (go_ret2; exact ⟨0, 0, .inl rfl, rfl, Below.refl _ _⟩)
    | skip
  all_goals
    go_simp
    go_loop [8, 9] (fun r k => ∃ (x : Int) (n : Nat), r = .int .i64 x ∧ k = .int .i64 n ∧ 1 ≤ n ∧ n ≤ 4) (fun _ k => 4 - (intOf k).toNat)
    case atStart => exact ⟨_, 1, rfl, rfl, by omega, by omega⟩
    case round =>
      obtain ⟨x, n, rfl, rfl, h1, h2⟩ := hrel
      go_wp2_with fail
      all_goals first
        | (go_round
           case rel => exact ⟨_, n + 1, rfl, by go_num, by omega, by omega⟩
           case measure => simp [intOf]; omega)
        | (refine (enc_any _ _).mono ?_
           rintro e w' ⟨s', k', -, rfl, hb⟩
           have hb' := Lib.hid hb
           clear hb
           go_wp2_with fail
           all_goals (go_ret2; first | exact ⟨0, 0, .inl rfl, rfl, hb'.out⟩ | exact ⟨_, _, .inr ⟨by omega, by omega⟩, rfl, hb'.out⟩))
end Go.Proofs.Ytbpdbmjfnbpihaa
