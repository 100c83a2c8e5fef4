/- Strings of decimal digits as natural numbers: digits by their places, the numeral of a number. -/
import Derived.Test.YtagkjofpncpcpaaGreatDoorProg
import Derived.Test.YtagkjofpncpcpaaGreatDoorGA
import Derived.Test.YtagkjofpncpcpaaGreatDoorGD
import Derived.Lib.TrimByte
import Derived.Laws.CopyRow
import Derived.Maps.OwnOps
import Derived.Maps.OwnSet
import Derived.Maps.Views
import Derived.Deep.Light
import Derived.Lib.Bytealg
import Derived.StillTailTactics
import Derived.Deep.DeepCutAuto
import Derived.Great.BuildSlice
import Derived.Sort.Walk0
import Derived.Deep.DeepMust
namespace Go.Proofs.YtagkjofpncpcpaaGreatDoor
def numV (s:ByteArray):Nat:=dv s.data.toList
def digN:Nat→Nat→List Int
 | 0,_=>[]
 | n+1,a=>digN n (a / 10)++[((a % 10:Nat):Int)+48]
def stripS (s:ByteArray):ByteArray:=⟨(Lib.trimLeftB s.data.toList 48).toArray⟩
def numS (a:Nat):ByteArray:=stripS (strOfNums (digN (a+1) a))
end Go.Proofs.YtagkjofpncpcpaaGreatDoor

/- Digits by their places: decimal.at, digits.digit, datakitref01.at. -/
namespace Go.Proofs.YtagkjofpncpcpaaGreatDoor
open Go.RowKit
end Go.Proofs.YtagkjofpncpcpaaGreatDoor

/- Sums and differences of strings of digits: what a round of the loops does (plain), decimal.plus, decimal.minus. -/
namespace Go.Proofs.YtagkjofpncpcpaaGreatDoor
open Go.RowKit
end Go.Proofs.YtagkjofpncpcpaaGreatDoor
