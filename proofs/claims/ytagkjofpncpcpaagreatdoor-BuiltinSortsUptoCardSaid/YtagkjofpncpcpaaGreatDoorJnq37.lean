/- Valid texts, lists of them: no program here. -/
import Derived.Test.YtagkjofpncpcpaaGreatDoorProg
import Derived.Test.YtagkjofpncpcpaaGreatDoorGA
import Derived.Test.YtagkjofpncpcpaaGreatDoorGB
import Derived.Test.YtagkjofpncpcpaaGreatDoorGF
import Derived.Shelf.Strings.OnBuilder
import Derived.Shelf.Strings.Trim
import Derived.Shelf.Small.Strs
import Derived.Shelf.Strings.Search3
import Derived.Shelf.Strings.Fields
import Derived.Shelf.Strings.Repeat
import Derived.Shelf.Slices.Turned
import Derived.Deep.AppendLies
import Derived.Lib.Repeat
import Derived.Laws.OwnMore
import Derived.Lib.SliceRun
import Derived.OrdersHeld
import Derived.Laws.CopyOwn
import Derived.Deep.WholeRow
import Derived.Laws.CopyRow
import Derived.Deep.Light
import Derived.Lib.Bytealg
import Derived.StillTailTactics
import Derived.Deep.DeepCutAuto
import Derived.Great.BuildSlice
import Derived.Sort.Walk0
import Derived.Deep.DeepMust
namespace Go.Proofs.YtagkjofpncpcpaaGreatDoor
open Go.RowKit
theorem d0:decB ⟨false,⟨#[]⟩,0⟩ ⟨false,⟨#[]⟩,0⟩=true:=by simp [decB]
theorem t0:timeB ⟨0,0,0,0⟩ ⟨0,0,0,0⟩=true:=by decide
theorem v0:vdecB ⟨false,⟨#[]⟩,0⟩=true:=by decide
end Go.Proofs.YtagkjofpncpcpaaGreatDoor
