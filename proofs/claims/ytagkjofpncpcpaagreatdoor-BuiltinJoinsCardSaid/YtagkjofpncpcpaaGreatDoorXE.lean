/- The reference's fields in the order of their keys (datakitref07.Fields): by insertion. -/
import Derived.Test.YtagkjofpncpcpaaGreatDoorProg
import Derived.Test.YtagkjofpncpcpaaGreatDoorGA
import Derived.Test.YtagkjofpncpcpaaGreatDoorGB
import Derived.Test.YtagkjofpncpcpaaGreatDoorGD
import Derived.Test.YtagkjofpncpcpaaGreatDoorXD
import Derived.Great.BuildSlice
import Derived.Sort.Walk0
import Derived.Deep.DeepMust
namespace Go.Proofs.YtagkjofpncpcpaaGreatDoor
namespace Stb
end Stb
open Go.RowKit Stb
theorem flat_agg (rows:List (List Value)):((rows.map fun r=>Value.agg r.toArray).flatMap fun v=>v.cells.toList)=rows.flatten:=by
 rw [List.flatMap_map]
 simp only [Value.cells,List.flatMap]
 rw [List.map_id']
theorem belowBox' (w:World) (o:Obj) {B:Nat} (h:B≤w.heap.size):Below B w (w.alloc o):=(belowBox w o).mono h
end Go.Proofs.YtagkjofpncpcpaaGreatDoor

/- The reference's fields in the order of their keys (datakitref07.Fields): the walk. -/
namespace Go.Proofs.YtagkjofpncpcpaaGreatDoor
open Go.RowKit Stb
def RowsQ (w:World) (B N H:Nat) (M:List (ByteArray×ValD)) (a:Option Addr) (c:World):Prop :=
 M=[]∨∃ (b o:Nat) (f:Nat→List Value),a=some ⟨b,o,none⟩∧H≤b∧b<c.heap.size∧FldQ w B N M f∧∀ k,k<M.length→CellsAt c b (o+k * 14) (f k)
theorem RowsQ.keep {w c d:World} {B N H:Nat} {M:List (ByteArray×ValD)} {a:Option Addr} (h:RowsQ w B N H M a c) (hb:∀ b,H≤b→b<c.heap.size→d.heap[b]?=c.heap[b]?) (hs:c.heap.size≤d.heap.size):RowsQ w B N H M a d:=by
 rcases h with h | ⟨b,o,f,h1,h2,h3,h4,h5⟩
 ·exact .inl h
 ·refine .inr ⟨b,o,f,h1,h2,Nat.lt_of_lt_of_le h3 hs,h4,fun k hk j hj=>?_⟩
  rw [← h5 k hk j hj]
  simp only [World.cell?]
  rw [hb b h2 h3]
theorem RowsQ.below {w c d:World} {B N H:Nat} {M:List (ByteArray×ValD)} {a:Option Addr} (h:RowsQ w B N H M a c) (hb:Below c.heap.size c d):RowsQ w B N H M a d:=h.keep (fun b _ hl=>hb.block b hl) hb.size
theorem RowsQ.fields {w c:World} {B N H:Nat} {M:List (ByteArray×ValD)} {a:Option Addr} (h:RowsQ w B N H M a c) (hb:Below B w c) (hB:B≤c.heap.size):FieldsAt c c.heap.size N M a:=by
 rcases h with h | ⟨b,o,f,h1,h2,h3,h4,h5⟩
 ·subst h;trivial
 ·subst h1
  refine FieldsAt_of' h3 M o fun i hi=>?_
  obtain ⟨cs,e1,e2,e3⟩:=h4 i hi
  exact ⟨cs,e2,by rw [← e1];exact h5 i hi,(e3.below hb).mono hB⟩
end Go.Proofs.YtagkjofpncpcpaaGreatDoor
