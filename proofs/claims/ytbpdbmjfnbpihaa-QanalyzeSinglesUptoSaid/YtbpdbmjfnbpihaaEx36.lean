/- The reference's form of a node (datakitref36.form and what it calls): it returns, writes nothing that was there, and where it says yes the node has as many Args as its operator asks. -/
import Derived.Test.YtbpdbmjfnbpihaaVal07e
import Derived.Test.YtbpdbmjfnbpihaaId35
namespace Go.Proofs.Ytbpdbmjfnbpihaa
open Go.RowKit

theorem sizeE : (Try.prog.info? 38).map (·.size) = some 17 := by kernel_rfl

/-- The load of a struct in a guarded place that is wanted. -/
theorem wpList_load_mid_g {P : Program} {ops : Array Oper} {rest : List Oper} {op : Oper} {a : Act} {w : World} {Q : Exit → Act → World → Prop} (hw : Region.wanted op (yielded ops a.tmps) = true) (ty : TypeId) (x : Operand) (ho : op.op = .load ty x)
    (b o : Nat) (hx : a.eval x = .pointer (some ⟨b, o, none⟩)) (cs : List Value) (d : TypeDesc) (hc : w.rangeAt b o cs)
    (hu : P.underlying ty = some d) (hd : d.isRow = true) (hi : (P.info? ty).map (·.size) = some cs.length)
    (h : wpList P ops Q rest (a.put op.dst (.agg cs.toArray)) w) : wpList P ops Q (op :: rest) a w :=
  wpList_step fun K hK => by rw [if_pos hw]; exact wp_load_mid ty x ho b o hx cs d hc hu hd hi (hK _ _ h)

def argsN (op : Int) : Int :=
  if op = 1 ∨ op = 2 ∨ op = 3 ∨ op = 4 ∨ op = 27 then 0 else
  if op = 5 ∨ op = 8 ∨ op = 11 ∨ op = 26 ∨ op = 23 then 1 else
  if op = 6 ∨ op = 9 ∨ op = 10 ∨ op = 14 ∨ op = 15 ∨ op = 16 ∨ op = 28 ∨ op = 29 ∨ op = 12 ∨ op = 13 ∨ op = 22 then 2 else
  if op = 7 then 3 else if op = 17 then 2 else if op = 18 then 3 else if op = 19 then 3 else if op = 20 then 4 else if op = 24 then 1 else -1
def ArgsR (op : Int) (w : World) (e : Ending) (w' : World) : Prop := ∃ (n f : Int), e = .returned (.tuple #[.int .i64 n, .int .i64 f]) ∧ n = argsN op ∧ w = w'
set_option maxHeartbeats 1600000 in
theorem args_any (op : Int) (w : World) : Calls Try.prog 24 #[.int .i64 op] w (ArgsR op w) := by
  go_enter Try.func24, Try.ntmps24
  go_wp2
  all_goals
    go_ret2
    refine ⟨_, _, rfl, ?_, rfl⟩
    simp only [beq_iff_eq, beq_eq_false_iff_ne, ne_eq] at *
    first
      | (exfalso; omega)
      | (unfold argsN
         repeat (first | rw [if_pos (by omega)] | rw [if_neg (by omega)])
         try rfl)
set_option maxHeartbeats 1600000 in
theorem named_any (op : Int) (w : World) : Calls Try.prog 26 #[.int .i64 op] w (SameBool w) := by
  go_enter Try.func26, Try.ntmps26
  go_wp2
  all_goals (go_ret; exact ⟨_, rfl, rfl⟩)
set_option maxHeartbeats 1600000 in
theorem oper_any (op : Int) (s : ByteArray) (w : World) : Calls Try.prog 28 #[.int .i64 op, .string s] w (SameBool w) := by
  go_enter Try.func28, Try.ntmps28
  go_wp2
  all_goals (go_ret; exact ⟨_, rfl, rfl⟩)
set_option maxHeartbeats 1600000 in
theorem literal_any (v : ValD) (w : World) (B N : Nat) (cs : List Value) (hv : ValD.At w B N v cs) : Calls Try.prog 29 #[.agg cs.toArray] w (SomeBool w) := by
  obtain ⟨ya, la, va, yc, lc, vc, hh⟩ := hv.has
  clear hv
  have c0 := hh.kind
  have c2 := hh.neg
  clear hh
  go_enter Try.func29, Try.ntmps29
  go_wp2
  all_goals (go_ret; exact ⟨_, rfl, belowBox _ _⟩)
set_option maxHeartbeats 1600000 in
theorem zero_any (v : ValD) (w : World) (B N : Nat) (cs : List Value) (hv : ValD.At w B N v cs) : Calls Try.prog 27 #[.agg cs.toArray] w (SomeBool w) := by
  obtain ⟨ya, la, va, yc, lc, vc, hh⟩ := hv.has
  clear hv
  have c0 := hh.kind
  have c1 := hh.bool
  have c2 := hh.neg
  have c3 := hh.digits
  have c4 := hh.exp
  have c5 := hh.tkind
  have c6 := hh.day
  have c7 := hh.nano
  have c8 := hh.offset
  have c9 := hh.text
  have c10 := hh.bytes
  have c11 := hh.list
  have c12 := hh.fields
  clear hh
  have E1 := eqDEC0 v.num
  have E2 := eqTIME0 v.time
  have G1 := guardDEC
  have G2 := guardTIME
  go_enter Try.func27, Try.ntmps27
  go_wp2
  all_goals (go_ret; exact ⟨_, rfl, belowBox _ _⟩)

/-- The value's cells lie in the expression's. -/
theorem ExprD.Has.valRange {w wr : World} {B N b o : Nat} {e : ExprD} {cs vs : List Value} {aa fa : Option Addr} {ac fc : Nat} (h : ExprD.Has w B N e cs aa fa ac fc vs) (hc : CellsAt wr b o cs) : CellsAt wr b (o + 2) vs := fun j hj => by
  have hl : vs.length = 13 := h.atVal.len
  have hlen := h.len
  have hj2 : j + 2 < cs.length := by omega
  have h1 := hc (j + 2) hj2
  have h2 : vs[j]? = cs[j + 2]? := by
    rw [← h.val, List.getElem?_take, if_pos (by omega), List.getElem?_drop, Nat.add_comm]
  rw [h2, ← h1, show o + 2 + j = o + (j + 2) by omega]

set_option maxHeartbeats 1600000 in
theorem absent_any (x : ExprD) (w : World) (B N : Nat) (cs : List Value) (hB : B ≤ w.heap.size) (he : ExprD.At w B N x cs) : Calls Try.prog 25 #[.agg cs.toArray] w (SomeBool w) := by
  obtain ⟨aa, fa, ac, fc, vs, hh⟩ := he.has
  have H0 := Lib.hid (show Below w.heap.size w (w.alloc (.cells cs.toArray 38)) from belowBox w _)
  have hvr := Lib.hid (show (w.alloc (.cells cs.toArray 38)).rangeAt w.heap.size (0 + 2) vs from (hh.valRange (box_at w cs 38)).range)
  have HV := Lib.hid (show ValD.At (w.alloc (.cells cs.toArray 38)) B N x.val vs from hh.atVal.below (H0.out.mono hB))
  have hl := Lib.hid (show (Try.prog.info? 34).map (·.size) = some vs.length by rw [hh.atVal.len]; exact sizeV)
  have hs0 := Lib.hid (show w.heap.size < (w.alloc (.cells cs.toArray 38)).heap.size by rw [World.size_alloc]; omega)
  have HX := Lib.hid (box_at w cs 38)
  have c0 := hh.op
  have c1 := hh.name
  have c15 := hh.args
  have c16 := hh.funcs
  clear hh he
  go_enter Try.func25, Try.ntmps25
  go_wp2_with (refine wpList_load_mid_g rfl 34 _ rfl w.heap.size (0 + 2) rfl vs _ hvr.out Try.underlying34 rfl hl.out ?_)
  all_goals first
    | (go_ret; exact ⟨_, rfl, H0.out⟩)
    | (refine (zero_any x.val _ B N vs HV.out).mono ?_
       rintro e w1 ⟨b1, rfl, hb1⟩
       have H1 := Lib.hid (belowThen H0.out hb1)
       have d15 := (HX.out.then hb1 hs0.out).get0 c15
       have d16 := (HX.out.then hb1 hs0.out).get0 c16
       clear hb1
       go_wp2_with fail
       all_goals (go_ret; exact ⟨_, rfl, H1.out⟩))
end Go.Proofs.Ytbpdbmjfnbpihaa
