/- few (of the law): of one expression, it returns, and writes nothing that was there. -/
import Derived.Test.YtbpdbmjfnbpihaaNodes43
namespace Go.Proofs.Ytbpdbmjfnbpihaa
open Go.RowKit

def SomeBool43 (w : World) (e : Ending) (w' : World) : Prop := ∃ (k : Bool), e = .returned (.bool k) ∧ Below w.heap.size w w'

theorem zeroV_at (w : World) (B N : Nat) : ValD.At w B N (.mk 0 false ⟨false, ⟨#[]⟩, 0⟩ ⟨0, 0, 0, 0⟩ ⟨#[]⟩ [] [] []) [.int .i64 0, .bool false, .bool false, .string ⟨#[]⟩, .int .i64 0, .int .i64 0, .int .i64 0, .int .i64 0, .int .i64 0, .string ⟨#[]⟩, .slice none 0 0, .slice none 0 0, .slice none 0 0] := by
  refine ⟨none, none, none, 0, 0, 0, rfl, ?_, .inl rfl, trivial, trivial⟩
  simp [ValD.Own, ValD.kind, ValD.num, ValD.time, ValD.text, ValD.bytes, ValD.list, ValD.fields, I64, ByteArray.size]
theorem holder_at {w : World} {B N b c : Nat} {x : ExprD} {cs : List Value} (hN1 : 1 ≤ N) (hb : b < B) (h1 : CellsAt w b 0 cs) (hx : ExprD.At w B N x cs) :
    ExprD.At w B N (.mk 0 ⟨#[]⟩ (.mk 0 false ⟨false, ⟨#[]⟩, 0⟩ ⟨0, 0, 0, 0⟩ ⟨#[]⟩ [] [] []) [x] [])
      [.int .i64 0, .string ⟨#[]⟩, .int .i64 0, .bool false, .bool false, .string ⟨#[]⟩, .int .i64 0, .int .i64 0, .int .i64 0, .int .i64 0, .int .i64 0, .string ⟨#[]⟩, .slice none 0 0, .slice none 0 0, .slice none 0 0, .slice (some ⟨b, 0, none⟩) 1 c, .slice none 0 0] := by
  refine ⟨_, some ⟨b, 0, none⟩, none, c, 0, rfl, ?_, zeroV_at w B N, ⟨⟨b, 0, cs, rfl, hb, h1, hx⟩, trivial⟩, trivial⟩
  simp [ExprD.Own, ExprD.op, ExprD.name, ExprD.args, ExprD.funcs, I64, ByteArray.size]
  exact hN1

set_option maxHeartbeats 1600000 in
theorem few_any (x : ExprD) (w : World) (B N b c : Nat) (cs : List Value) (hN : N ≤ 1099511627776) (hN1 : 1 ≤ N) (hB : B ≤ w.heap.size) (hb : b < B) (h1 : CellsAt w b 0 cs) (hx : ExprD.At w B N x cs) :
    Calls Try.prog 8 #[.slice none 0 0, .slice (some ⟨b, 0, none⟩) 1 c] w (SomeBool43 w) := by
  have HX := Lib.hid (holder_at (c := c) hN1 hb h1 hx)
  clear hx h1
  go_enter Try.func8, Try.ntmps8
  go_wp2_with fail
  refine (nodes_any 60 w B N _ _ 600 (Nat.le_refl _) hN hB HX.out).mono ?_
  rintro e w1 ⟨k, rfl, hb1⟩
  have H1 := Lib.hid hb1
  clear hb1
  go_wp2_with fail
  go_ret
  exact ⟨_, rfl, H1.out⟩
end Go.Proofs.Ytbpdbmjfnbpihaa
