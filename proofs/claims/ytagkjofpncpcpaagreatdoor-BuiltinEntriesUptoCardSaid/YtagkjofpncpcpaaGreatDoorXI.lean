/- decimal.ToInt and datakitref02.ToInt: both compute the same of a valid decimal. -/
import Derived.Test.YtagkjofpncpcpaaGreatDoorProg
import Derived.Test.YtagkjofpncpcpaaGreatDoorGA
import Derived.Test.YtagkjofpncpcpaaGreatDoorGB
import Derived.Test.YtagkjofpncpcpaaGreatDoorXA
import Derived.StillTailTactics
import Derived.Deep.DeepCutAuto
import Derived.Great.BuildSlice
import Derived.Sort.Walk0
import Derived.Deep.DeepMust
namespace Go.Proofs.YtagkjofpncpcpaaGreatDoor
open Go.RowKit
end Go.Proofs.YtagkjofpncpcpaaGreatDoor

/- decimal.ToInt: it computes what datakitref02.ToInt does, of a valid decimal. -/
namespace Go.Proofs.YtagkjofpncpcpaaGreatDoor
open Go.RowKit
end Go.Proofs.YtagkjofpncpcpaaGreatDoor

/- decimal.align. -/
namespace Go.Proofs.YtagkjofpncpcpaaGreatDoor
open Go.RowKit
end Go.Proofs.YtagkjofpncpcpaaGreatDoor

/- decimal.size, decimal.Cmp. -/
namespace Go.Proofs.YtagkjofpncpcpaaGreatDoor
open Go.RowKit
end Go.Proofs.YtagkjofpncpcpaaGreatDoor

/- decimal.Cmp. -/
namespace Go.Proofs.YtagkjofpncpcpaaGreatDoor
open Go.RowKit
end Go.Proofs.YtagkjofpncpcpaaGreatDoor

/- datakitref02.size where one of the two has no digits, or where one is longer. -/
namespace Go.Proofs.YtagkjofpncpcpaaGreatDoor
open Go.RowKit
end Go.Proofs.YtagkjofpncpcpaaGreatDoor

/- datakitref02.size where one number is longer. -/
namespace Go.Proofs.YtagkjofpncpcpaaGreatDoor
open Go.RowKit
end Go.Proofs.YtagkjofpncpcpaaGreatDoor

/- datakitref02.size where both are equally long. -/
namespace Go.Proofs.YtagkjofpncpcpaaGreatDoor
open Go.RowKit
end Go.Proofs.YtagkjofpncpcpaaGreatDoor

/- datakitref02.size, datakitref02.Cmp. -/
namespace Go.Proofs.YtagkjofpncpcpaaGreatDoor
open Go.RowKit
end Go.Proofs.YtagkjofpncpcpaaGreatDoor

/- value.compare with the comparisons that value.order hands to it. -/
namespace Go.Proofs.YtagkjofpncpcpaaGreatDoor
open Go.RowKit
theorem drewB (w:World) {B:Nat}:Below B w w.drew:=⟨rfl,rfl,rfl,Nat.le_refl _,fun _ _=>rfl⟩
structure Duo (w W:World) (cs ds:List Value):Prop where
 below:Below w.heap.size w W
 one:CellsAt W w.heap.size 0 cs
 two:CellsAt W (w.heap.size+1) 0 ds
 size:w.heap.size+2≤W.heap.size
theorem Duo.later {w W W':World} {cs ds:List Value} (h:Duo w W cs ds) (hb:Below W.heap.size W W'):Duo w W' cs ds :=
 ⟨belowThen h.below hb,h.one.below hb (by have:=h.size;omega),h.two.below hb (by have:=h.size;omega),Nat.le_trans h.size hb.size⟩
end Go.Proofs.YtagkjofpncpcpaaGreatDoor
