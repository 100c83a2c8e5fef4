/- Decimals in normal form: decimal.norm, datakitref02.normal. -/
import Derived.Test.YtagkjofpncpcpaaGreatDoorProg
import Derived.Test.YtagkjofpncpcpaaGreatDoorGA
import Derived.Test.YtagkjofpncpcpaaGreatDoorGB
import Derived.Test.YtagkjofpncpcpaaGreatDoorRow36
import Derived.Test.YtagkjofpncpcpaaGreatDoorGF
import Derived.Test.YtagkjofpncpcpaaGreatDoorXA
import Derived.Test.YtagkjofpncpcpaaGreatDoorXI
import Derived.Test.YtagkjofpncpcpaaGreatDoorAA
namespace Go.Proofs.YtagkjofpncpcpaaGreatDoor
open Go.RowKit
def cutS (s:ByteArray):ByteArray:=⟨(Lib.trimRightB s.data.toList 48).toArray⟩
def tzS (s:ByteArray):Nat:=s.size-(cutS s).size
def normD (neg:Bool) (s:ByteArray) (exp:Int):DecD×Int :=
 if s.size=0 then (dec0,0) else if 120<(cutS s).size∨400<exp+tzS s∨exp+tzS s < -400 then (dec0,2) else (⟨neg,cutS s,exp+tzS s⟩,0)
end Go.Proofs.YtagkjofpncpcpaaGreatDoor

/- decimal.align: the digits of both and their exponent. -/
namespace Go.Proofs.YtagkjofpncpcpaaGreatDoor
open Go.RowKit
def expD (a b:DecD):Int:=if a.digits.size=0 then b.exp else if b.digits.size=0 then a.exp else min a.exp b.exp
end Go.Proofs.YtagkjofpncpcpaaGreatDoor

/- Sums, products, quotients, remainders of decimals: what they are (plain), decimal.Add .. Mod, datakitref02.Add .. Mod. -/
namespace Go.Proofs.YtagkjofpncpcpaaGreatDoor
open Go.RowKit
def xD (a b:DecD):Nat:=numV (alignD a b).1
def yD (a b:DecD):Nat:=numV (alignD a b).2
def addD (a b:DecD):DecD×Int :=
 if a.neg=b.neg then normD a.neg (numS (xD a b+yD a b)) (expD a b) else if yD a b≤xD a b then normD a.neg (numS (xD a b-yD a b)) (expD a b) else normD b.neg (numS (yD a b-xD a b)) (expD a b)
def e400:Nat:=400
def divD (a b:DecD):DecD×Int :=
 if b.digits.size=0 then (dec0,14) else if numV a.digits * 10 ^ e400 % numV b.digits≠0 then (dec0,15) else normD (a.neg != b.neg) (numS (numV a.digits * 10 ^ e400 / numV b.digits)) (a.exp-b.exp-400)
structure Tdec (w W:World) (a b:DecD) (cs:List Value):Prop where
 below:Below w.heap.size w W
 one:RowT 24 W w.heap.size [.bool a.neg,.string a.digits,.int .i64 a.exp]
 two:RowT 24 W (w.heap.size+1) [.bool b.neg,.string b.digits,.int .i64 b.exp]
 res:RowT 24 W (w.heap.size+1+1) cs
theorem Tdec.later {w W W':World} {a b:DecD} {cs:List Value} (h:Tdec w W a b cs) (hb:Below W.heap.size W W'):Tdec w W' a b cs:=⟨belowThen h.below hb,h.one.then hb,h.two.then hb,h.res.then hb⟩
theorem Tdec.drew {w W:World} {a b:DecD} {cs:List Value} (h:Tdec w W a b cs):Tdec w W.drew a b cs:=⟨h.below.trans (drewB _),h.one,h.two,h.res⟩
theorem Tdec.put {w W:World} {a b:DecD} {cs:List Value} (h:Tdec w W a b cs) (new:List Value):Tdec w (W.setRow (w.heap.size+1+1) new.toArray) a b new :=
 ⟨below_setRow h.below (by omega) _,h.one.setRowOther (by omega) _,h.two.setRowOther (by omega) _,h.res.setRow new⟩
end Go.Proofs.YtagkjofpncpcpaaGreatDoor
