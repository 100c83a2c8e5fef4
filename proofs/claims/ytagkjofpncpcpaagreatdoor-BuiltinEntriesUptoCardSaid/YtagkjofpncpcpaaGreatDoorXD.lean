/- The library's stable sort of fields by their keys: blocks by insertion, then merged two by two; slices.SortStableFunc. -/
import Derived.Test.YtagkjofpncpcpaaGreatDoorProg
import Derived.Test.YtagkjofpncpcpaaGreatDoorGA
import Derived.Test.YtagkjofpncpcpaaGreatDoorGB
import Derived.Test.YtagkjofpncpcpaaGreatDoorGD
import Derived.Test.YtagkjofpncpcpaaGreatDoorRow36
import Derived.Test.YtagkjofpncpcpaaGreatDoorXA
import Derived.StillTailTactics
import Derived.Deep.DeepCutAuto
namespace Go.Proofs.YtagkjofpncpcpaaGreatDoor
namespace Stb
end Stb
open Go.RowKit Stb
end Go.Proofs.YtagkjofpncpcpaaGreatDoor

/- The program's fields in the order of their keys (value.sorted): cloned, sorted. -/
namespace Go.Proofs.YtagkjofpncpcpaaGreatDoor
open Go.RowKit Stb
def FldQ (w:World) (B N:Nat) (l:List (ByteArray×ValD)) (f:Nat→List Value):Prop:=∀ k (hk:k<l.length),∃ cs,f k=.string l[k].1::cs∧l[k].1.size≤N∧ValD.At w B N l[k].2 cs
theorem FldQ.then {w w':World} {B N:Nat} {l:List (ByteArray×ValD)} {f:Nat→List Value} (h:FldQ w B N l f) (hb:Below w.heap.size w w') (hB:B≤w.heap.size):FldQ w' B N l f:=fun k hk=>by
 obtain ⟨cs,h1,h2,h3⟩:=h k hk
 exact ⟨cs,h1,h2,h3.below (hb.mono hB)⟩
theorem FldQ.len {w:World} {B N:Nat} {l:List (ByteArray×ValD)} {f:Nat→List Value} (h:FldQ w B N l f):∀ k,k<l.length→(f k).length=14:=fun k hk=>by
 obtain ⟨cs,h1,_,h3⟩:=h k hk
 obtain ⟨ya,la,va,yc,lc,vc,rfl,_⟩:=h3.row
 rw [h1]
 rfl
theorem FldQ.one {w:World} {B N:Nat} {l:List (ByteArray×ValD)} {f:Nat→List Value} (h:FldQ w B N l f):∀ k,k<l.length→∀ v∈f k,v.oneCell'=true:=fun k hk v hv=>by
 obtain ⟨cs,h1,_,h3⟩:=h k hk
 obtain ⟨ya,la,va,yc,lc,vc,rfl,_⟩:=h3.row
 rw [h1] at hv
 rcases List.mem_cons.1 hv with rfl | hv
 ·rfl
 ·simp [ValD.row] at hv
  rcases hv with rfl | rfl | rfl | rfl | rfl | rfl | rfl | rfl | rfl | rfl | rfl | rfl | rfl<;>rfl
theorem FldQ.key {w:World} {B N:Nat} {l:List (ByteArray×ValD)} {f:Nat→List Value} (h:FldQ w B N l f):∀ k (hk:k<l.length),keyR (f k)=l[k].1∧(f k)[0]?=some (.string (keyR (f k))):=fun k hk=>by
 obtain ⟨cs,h1,_,h3⟩:=h k hk
 rw [h1]
 exact ⟨rfl,rfl⟩
theorem FldQ.rows {w:World} {B N b:Nat} {l:List (ByteArray×ValD)} {f:Nat→List Value} {tl:List Value} (h:FldQ w B N l f) (hr:RowT 41 w b (flatR l.length f++tl)):RowsF w b l.length f tl:=⟨hr,h.len,h.one,fun k hk=>(h.key k hk).2⟩
theorem RowsF.fields {w:World} {b B N:Nat} {l:List (ByteArray×ValD)} {f:Nat→List Value} {tl:List Value} (R:RowsF w b l.length f tl) (h:FldQ w B N l f) (hb:b<B):FieldsAt w B N l (some ⟨b,0,none⟩) :=
 FieldsAt_of' hb l 0 fun i hi=>by
  obtain ⟨cs,h1,h2,h3⟩:=h i hi
  refine ⟨cs,h2,?_,h3⟩
  rw [Nat.zero_add,← h1]
  exact cellsOfRange (R.range hi)
theorem FieldsAt.rows {w:World} {B N:Nat} {l:List (ByteArray×ValD)} {a:Option Addr} (h:FieldsAt w B N l a) (hn:l≠[]):∃ b o f,a=some ⟨b,o,none⟩∧b<B∧FldQ w B N l f∧∀ k,k<l.length→CellsAt w b (o+k * 14) (f k):=by
 obtain ⟨b,o,h1,h2,h3⟩:=h.get hn
 refine ⟨b,o,fun k=>if hk:k<l.length then .string l[k].1::(h3 k hk).choose else [],h1,h2,fun k hk=>?_,fun k hk=>?_⟩
 ·exact ⟨(h3 k hk).choose,by simp [hk],(h3 k hk).choose_spec.1,(h3 k hk).choose_spec.2.2⟩
 ·simp only [hk,dite_true]
  exact (h3 k hk).choose_spec.2.1
theorem FldQ.low {w w':World} {B N:Nat} {l:List (ByteArray×ValD)} {f:Nat→List Value} (h:FldQ w B N l f) (hb:Below B w w') (hB:B≤w'.heap.size):FldQ w' w'.heap.size N l f:=fun k hk=>by
 obtain ⟨cs,h1,h2,h3⟩:=h k hk
 exact ⟨cs,h1,h2,(h3.below hb).mono hB⟩
end Go.Proofs.YtagkjofpncpcpaaGreatDoor
