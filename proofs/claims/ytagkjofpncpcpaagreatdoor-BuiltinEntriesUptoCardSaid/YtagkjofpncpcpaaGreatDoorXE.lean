/- The reference's fields in the order of their keys (datakitref07.Fields): by insertion. -/
import Derived.Test.YtagkjofpncpcpaaGreatDoorProg
import Derived.Test.YtagkjofpncpcpaaGreatDoorGA
import Derived.Test.YtagkjofpncpcpaaGreatDoorGB
import Derived.Test.YtagkjofpncpcpaaGreatDoorGD
import Derived.Test.YtagkjofpncpcpaaGreatDoorXD
import Derived.Great.BuildSlice
import Derived.Sort.Walk0
import Derived.Deep.DeepMust
namespace Go.Proofs.YtagkjofpncpcpaaGreatDoor
namespace Stb
end Stb
open Go.RowKit Stb
theorem flat_agg (rows:List (List Value)):((rows.map fun r=>Value.agg r.toArray).flatMap fun v=>v.cells.toList)=rows.flatten:=by
 rw [List.flatMap_map]
 simp only [Value.cells,List.flatMap]
 rw [List.map_id']
theorem wp_rowsF {o:Oper} {a:Act} {w:World} {K:Act→World→Prop} {Q:Exit→Act→World→Prop} (rows:List (List Value)) (fl:List Value) (hfl:rows.flatten=fl) (len:Nat) (parts:Array (Nat×Operand)) (ho:o.op=.buildSlice 28 len parts)
 (hlen:rows.length=len) (hpos:0<len) (hle:len≤1000) (h14:∀ r∈rows,r.length=14) (hp:(parts.map fun (i,x)=>(i,a.eval x)).toList=((rows.map fun r=>Value.agg r.toArray).zipIdx 0).map fun x=>(x.2,x.1))
 (h:K (a.put o.dst (.slice (some ⟨w.heap.size,0,none⟩) len len)) (w.alloc (.cells fl.toArray 41))):o.wp Tryz.prog a w K Q:=by
 subst hfl
 obtain ⟨z,hz,hi⟩:=infoF
 cases hie:Tryz.prog.info? 41 with
 | none=>rw [hie] at hi;cases hi
 | some ie =>
   rw [hie] at hi
   simp only [Option.map_some,Option.some.injEq,Prod.mk.injEq] at hi
   obtain ⟨h1,h2,_⟩:=hi
   refine wp_buildSlice 28 41 len parts ho rows.flatten.toArray ie (.agg z) Tryz.underlying28 hie h1 (by rw [h2];omega) (by rw [h2];omega) ?_ h
   have e:=Great.fill_whole (s:=14) (by decide) (rows.map fun r=>Value.agg r.toArray) ((Array.range (len * 14)).map ((Value.agg z).cells[· % (Value.agg z).cells.size]!)) (fun v hv=>by
    obtain ⟨r,hr,rfl⟩:=List.mem_map.1 hv
    show r.toArray.size=14
    rw [List.size_toArray]
    exact h14 r hr) (by simp [hlen])
   rw [flat_agg] at e
   rw [hp,h2]
   exact e
theorem wpList_rowsF {ops:Array Oper} {rest:List Oper} {o:Oper} {a:Act} {w:World} {Q:Exit→Act→World→Prop} (hg:o.guard=none) (rows:List (List Value)) (fl:List Value) (hfl:rows.flatten=fl) (len:Nat) (parts:Array (Nat×Operand)) (ho:o.op=.buildSlice 28 len parts)
 (hlen:rows.length=len) (hpos:0<len) (hle:len≤1000) (h14:∀ r∈rows,r.length=14) (hp:(parts.map fun (i,x)=>(i,a.eval x)).toList=((rows.map fun r=>Value.agg r.toArray).zipIdx 0).map fun x=>(x.2,x.1))
 (h:wpList Tryz.prog ops Q rest (a.put o.dst (.slice (some ⟨w.heap.size,0,none⟩) len len)) (w.alloc (.cells fl.toArray 41))):wpList Tryz.prog ops Q (o::rest) a w :=
 wpList_plain hg fun _ hK=>wp_rowsF rows fl hfl len parts ho hlen hpos hle h14 hp (hK _ _ h)
theorem belowBox' (w:World) (o:Obj) {B:Nat} (h:B≤w.heap.size):Below B w (w.alloc o):=(belowBox w o).mono h
theorem new_cells (w:World) (cs:List Value) (t:TypeId) (j:Nat) (u:Value) (hu:cs[j]?=some u):(w.alloc (.cells cs.toArray t)).cell? (Addr.add ⟨w.heap.size,0,none⟩ j)=some u:=by
 rw [Addr.add_mid,Nat.zero_add,World.cell?_alloc_new]
 simpa using hu
end Go.Proofs.YtagkjofpncpcpaaGreatDoor

/- The reference's fields in the order of their keys (datakitref07.Fields): the walk. -/
namespace Go.Proofs.YtagkjofpncpcpaaGreatDoor
open Go.RowKit Stb
def RowsQ (w:World) (B N H:Nat) (M:List (ByteArray×ValD)) (a:Option Addr) (c:World):Prop :=
 M=[]∨∃ (b o:Nat) (f:Nat→List Value),a=some ⟨b,o,none⟩∧H≤b∧b<c.heap.size∧FldQ w B N M f∧∀ k,k<M.length→CellsAt c b (o+k * 14) (f k)
theorem RowsQ.keep {w c d:World} {B N H:Nat} {M:List (ByteArray×ValD)} {a:Option Addr} (h:RowsQ w B N H M a c) (hb:∀ b,H≤b→b<c.heap.size→d.heap[b]?=c.heap[b]?) (hs:c.heap.size≤d.heap.size):RowsQ w B N H M a d:=by
 rcases h with h | ⟨b,o,f,h1,h2,h3,h4,h5⟩
 ·exact .inl h
 ·refine .inr ⟨b,o,f,h1,h2,Nat.lt_of_lt_of_le h3 hs,h4,fun k hk j hj=>?_⟩
  rw [← h5 k hk j hj]
  simp only [World.cell?]
  rw [hb b h2 h3]
theorem RowsQ.below {w c d:World} {B N H:Nat} {M:List (ByteArray×ValD)} {a:Option Addr} (h:RowsQ w B N H M a c) (hb:Below c.heap.size c d):RowsQ w B N H M a d:=h.keep (fun b _ hl=>hb.block b hl) hb.size
theorem RowsQ.fields {w c:World} {B N H:Nat} {M:List (ByteArray×ValD)} {a:Option Addr} (h:RowsQ w B N H M a c) (hb:Below B w c) (hB:B≤c.heap.size):FieldsAt c c.heap.size N M a:=by
 rcases h with h | ⟨b,o,f,h1,h2,h3,h4,h5⟩
 ·subst h;trivial
 ·subst h1
  refine FieldsAt_of' h3 M o fun i hi=>?_
  obtain ⟨cs,e1,e2,e3⟩:=h4 i hi
  exact ⟨cs,e2,by rw [← e1];exact h5 i hi,(e3.below hb).mono hB⟩
end Go.Proofs.YtagkjofpncpcpaaGreatDoor
