/- The reference's Check of expressions (datakitref36: look, kid, funcs, Check): it returns, writes nothing that was there, and where it finds no error each node that it visits has as many Args as its operator asks. -/
import Derived.Test.YtbpdbmjfnbpihaaEx36c
import Derived.Deep.WholeRow
namespace Go.Proofs.Ytbpdbmjfnbpihaa
open Go.RowKit

mutual
def okE : ExprD → Prop
  | .mk op _ _ l _ => (0 ≤ argsN op → (l.length : Int) = argsN op) ∧ okL l
def okL : List ExprD → Prop
  | [] => True
  | a :: r => (a.op = 30 ∨ okE a) ∧ okL r
end
theorem okL_of : ∀ (l : List ExprD), (∀ i (h : i < l.length), l[i].op = 30 ∨ okE l[i]) → okL l
  | [], _ => by unfold okL; trivial
  | a :: r, h => by
    unfold okL
    exact ⟨h 0 (by simp), okL_of r fun i hi => h (i + 1) (by simpa using hi)⟩
theorem okL_get : ∀ {l : List ExprD}, okL l → ∀ i (h : i < l.length), l[i].op = 30 ∨ okE l[i]
  | a :: r, h, 0, _ => by unfold okL at h; exact h.1
  | a :: r, h, i + 1, hi => by unfold okL at h; exact okL_get h.2 i (by simpa using hi)
theorem okE_iff {x : ExprD} : okE x ↔ (0 ≤ argsN x.op → (x.args.length : Int) = argsN x.op) ∧ okL x.args := by
  obtain ⟨op, nm, v, l, fs⟩ := x
  unfold okE
  rfl

def LookR (x : ExprD) (w : World) (e : Ending) (w' : World) : Prop := ∃ (n f : Int), e = .returned (.tuple #[.int .i64 n, .int .i64 f]) ∧ (f = 0 → okE x) ∧ Below w.heap.size w w'
def KidR (x : ExprD) (w : World) (e : Ending) (w' : World) : Prop := ∃ (n f : Int), e = .returned (.tuple #[.int .i64 n, .int .i64 f]) ∧ (f = 0 → x.op = 30 ∨ okE x) ∧ Below w.heap.size w w'

/-- What is known of 'look' from a depth on. -/
def LookAt (m : Nat) : Prop := ∀ (x : ExprD) (w : World) (B N : Nat) (cs : List Value) (depth : Nat) (seen : Int), depth + m = 49 → N ≤ 4294967296 → B ≤ w.heap.size → ExprD.At w B N x cs →
    Calls Try.prog 14 #[.agg cs.toArray, .int .i64 depth, .int .i64 seen] w (LookR x w)

theorem kid_of (m : Nat) (ih : LookAt m) (x : ExprD) (w : World) (B N : Nat) (cs : List Value) (depth : Nat) (seen : Int) (hd : depth + m = 49) (hN : N ≤ 4294967296) (hB : B ≤ w.heap.size) (hx : ExprD.At w B N x cs) :
    Calls Try.prog 22 #[.agg cs.toArray, .int .i64 depth, .int .i64 seen] w (KidR x w) := by
  have IH := Lib.hid ih
  have HX := Lib.hid hx
  have HD := Lib.hid hd
  have H0 := Lib.hid (show Below w.heap.size w (w.alloc (.cells cs.toArray 38)) from belowBox w _)
  have hl := Lib.hid (show (Try.prog.info? 38).map (·.size) = some cs.length by rw [hx.len]; exact sizeE)
  obtain ⟨aa, fa, ac, fc, vs, hh⟩ := hx.has
  have c0 := hh.op
  clear hh hx ih hd
  by_cases h30 : x.op = 30
  · have K := Lib.hid h30
    rw [h30] at c0
    clear h30
    by_cases h1 : depth ≤ 48
    · by_cases h2 : 4096 ≤ seen
      · go_enter Try.func22, Try.ntmps22
        go_wp2_with fail
        go_ret2
        exact ⟨_, _, rfl, fun _ => .inl K.out, H0.out⟩
      · go_enter Try.func22, Try.ntmps22
        go_wp2_with fail
        go_ret2
        exact ⟨_, _, rfl, fun _ => .inl K.out, H0.out⟩
    · go_enter Try.func22, Try.ntmps22
      go_wp2_with fail
      go_ret2
      exact ⟨_, _, rfl, fun _ => .inl K.out, H0.out⟩
  · have h30' : (x.op == 30) = false := by simpa using h30
    have h30n : (x.op != 30) = true := by simpa using h30
    clear h30
    go_enter Try.func22, Try.ntmps22
    go_wp2_with (refine wpList_load_mid rfl 38 _ rfl w.heap.size 0 rfl cs _ (box_at w cs 38).range Try.underlying38 rfl hl.out ?_)
    refine (IH.out x _ B N cs depth seen HD.out hN (Nat.le_trans hB H0.out.size) (HX.out.below (H0.out.mono hB))).mono ?_
    rintro e w1 ⟨n, f, rfl, ho, hb1⟩
    have HO := Lib.hid ho
    have H1 := Lib.hid (belowThen H0.out hb1)
    clear ho hb1
    go_wp2_with fail
    go_ret2
    exact ⟨_, _, rfl, fun h => .inr (HO.out h), H1.out⟩
end Go.Proofs.Ytbpdbmjfnbpihaa
