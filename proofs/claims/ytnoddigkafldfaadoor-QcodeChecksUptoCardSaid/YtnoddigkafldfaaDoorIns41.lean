/- Instructions of code: what their checks compute. No program here. -/
import Derived.Test.YtnoddigkafldfaaDoorChkD
import Derived.Test.YtnoddigkafldfaaDoorVal07e
import Derived.Test.YtnoddigkafldfaaDoorNam37
namespace Go.Proofs.YtnoddigkafldfaaDoor
open Go.RowKit

structure InsD where
  op : Int
  a : Int
  b : Int
  name : ByteArray
  val : ValD
/-- What A and B of an operator are: nothing, a number, an address, a callee, an error. -/
def useA (op : Int) : Int := if op = 5 ∨ op = 6 ∨ op = 21 ∨ op = 25 ∨ op = 13 ∨ op = 24 ∨ op = 28 then 1 else if op = 14 ∨ op = 15 ∨ op = 16 ∨ op = 22 ∨ op = 26 ∨ op = 20 then 2 else if op = 18 then 3 else if op = 29 then 4 else 0
def useB (op : Int) : Int := if op = 5 ∨ op = 6 ∨ op = 21 ∨ op = 25 ∨ op = 18 ∨ op = 20 then 1 else 0
def namO (op : Int) : Bool := decide (op = 7 ∨ op = 11 ∨ op = 12 ∨ op = 13)
def withB (kind x : Int) (n : Nat) : Bool :=
  if kind = 1 then decide (0 ≤ x ∧ x ≤ 16384) else if kind = 2 then decide (0 ≤ x ∧ x < n) else if kind = 3 then decide (-1 ≤ x ∧ x < n) else if kind = 4 then decide (1 ≤ x ∧ x ≤ 32 ∧ x ≠ 18 ∧ x ≠ 29) else true
def zeroB (v : ValD) : Bool :=
  decide (v.kind = 0 ∧ v.bool = false ∧ decB v.num ⟨false, ⟨#[]⟩, 0⟩ = true ∧ timeB v.time ⟨0, 0, 0, 0⟩ = true ∧ v.text.size = 0 ∧ v.bytes.length = 0 ∧ v.list.length = 0 ∧ v.fields.length = 0)
def plusL : List (List UInt8) := [[43], [45], [42], [47], [37]]
def compL : List (List UInt8) := [[61, 61], [33, 61], [60], [60, 61], [62], [62, 61]]
def zeroL : List (List UInt8) := [[116, 114, 97, 99, 107], [112, 97, 116, 104]]
def oneL : List (List UInt8) := [[103, 101, 116, 112, 97, 116, 104], [100, 101, 108, 112, 97, 116, 104, 115]]
def twoL : List (List UInt8) := [[115, 101, 116, 112, 97, 116, 104]]
/-- The number of arguments of a builtin of the machine, and whether there is such a one. -/
def ariN (l : List UInt8) : Int := if zeroL.contains l then 0 else if oneL.contains l then 1 else if twoL.contains l then 2 else arN l
def ariB (l : List UInt8) : Bool := zeroL.contains l || oneL.contains l || twoL.contains l || arB l
def nameE (x : InsD) : Int :=
  if x.op = 7 then (if validS x.name = true ∧ x.name.size ≤ 1024 then 0 else 16)
  else if x.op = 11 then (if plusL.contains x.name.toList then 0 else 16)
  else if x.op = 12 then (if compL.contains x.name.toList then 0 else 16)
  else if x.op = 13 then (if ariB x.name.toList then (if ariN x.name.toList = x.a then 0 else 17) else 16)
  else 0
/-- Is anything there that the operator does not have? -/
def badI (x : InsD) : Bool := decide ((useA x.op = 0 ∧ x.a ≠ 0) ∨ (useB x.op = 0 ∧ x.b ≠ 0) ∨ (namO x.op = false ∧ x.name.size ≠ 0) ∨ (x.op ≠ 1 ∧ zeroB x.val = false))
def insE (x : InsD) (n : Nat) : Int :=
  if x.op < 1 ∨ 30 < x.op then 1 else if badI x = true then 1 else if withB (useA x.op) x.a n = false ∨ withB (useB x.op) x.b n = false then 2
  else if x.op = 1 then chkD x.val else nameE x
def inssE (n : Nat) : List InsD → Int
  | [] => 0
  | x :: r => if insE x n = 0 then inssE n r else insE x n
def codeE (start : Int) (l : List InsD) : Int := if start < 0 ∨ (l.length : Int) ≤ start then 2 else inssE l.length l
end Go.Proofs.YtnoddigkafldfaaDoor
