/- What Single says of an expression: by the tree. -/
import Derived.Test.YtbpdbmjfnbpihaaFuncs36
namespace Go.Proofs.Ytbpdbmjfnbpihaa
open Go.RowKit

def clsT (o : Int) : Bool := o == 1 || o == 3 || o == 4 || o == 24 || o == 29
def clsA (o : Int) : Bool := o == 5 || o == 6 || o == 7 || o == 9 || o == 11 || o == 12 || o == 13 || o == 14 || o == 15 || o == 16 || o == 18 || o == 22 || o == 23 || o == 25
def secondOp : List ExprD → Int
  | _ :: b :: _ => b.op
  | _ => 30
mutual
def single : ExprD → Bool
  | .mk op _ _ l _ => if clsT op then true else if clsA op then allS l else if op = 17 then (secondOp l != 30 && allS l) else if op = 19 ∨ op = 28 then secondS l else false
def allS : List ExprD → Bool
  | [] => true
  | a :: r => (a.op == 30 || single a) && allS r
def secondS : List ExprD → Bool
  | _ :: b :: _ => single b
  | _ => false
end
theorem single_eq (x : ExprD) : single x = if clsT x.op then true else if clsA x.op then allS x.args else if x.op = 17 then (secondOp x.args != 30 && allS x.args) else if x.op = 19 ∨ x.op = 28 then secondS x.args else false := by
  obtain ⟨op, nm, v, l, fs⟩ := x
  rw [single]
  rfl
theorem secondOp_get {l : List ExprD} (h : 1 < l.length) : secondOp l = l[1].op := by
  match l, h with
  | _ :: b :: _, _ => rfl
theorem secondS_get {l : List ExprD} (h : 1 < l.length) : secondS l = single l[1] := by
  match l, h with
  | _ :: b :: _, _ => simp [secondS]
theorem allS_drop {l : List ExprD} {k : Nat} (h : k < l.length) : allS (l.drop k) = ((l[k].op == 30 || single l[k]) && allS (l.drop (k + 1))) := by
  rw [List.drop_eq_getElem_cons h, allS]
theorem sizeOf_arg {x : ExprD} {k : Nat} (h : k < x.args.length) : SizeOf.sizeOf x.args[k] < SizeOf.sizeOf x := by
  have h1 : SizeOf.sizeOf x.args[k] < SizeOf.sizeOf x.args := List.sizeOf_lt_of_mem (List.getElem_mem h)
  obtain ⟨op, nm, v, l, fs⟩ := x
  simp only [ExprD.args] at *
  simp
  omega
end Go.Proofs.Ytbpdbmjfnbpihaa
