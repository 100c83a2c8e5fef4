/- slices.Clone of bytes. -/
import Derived.Test.YtnoddigkafldfaaDoorCopA
import Derived.Test.YtnoddigkafldfaaDoorNou01
import Derived.Lib.SliceRun
namespace Go.Proofs.YtnoddigkafldfaaDoor
open Go.RowKit

theorem ownBytes_map {w : World} {B n : Nat} {v : Value} {l : List Int} (h : w.ownsRow B 5 1 v n ([] ++ l.map (Value.int .u8))) : w.ownsRow B 5 1 v n (l.map (Value.int .u8)) := by simpa using h
end Go.Proofs.YtnoddigkafldfaaDoor
