/- From the model's reading of an argument to the trees: a value or an expression that came in and can be read lies in memory as a tree, and no string and no list in it is longer than N, where N is as great as the reading's bulk (or as the longest that there is). -/
import Derived.Test.YtagkjofpncpcpaaGreatDoorRows
import Derived.Test.YtagkjofpncpcpaaGreatDoorGA
import Derived.ProofKit
import Derived.OpenShut
import Derived.ShutString
import Derived.ChangeOld
import Derived.Carry
namespace Go.Proofs.YtagkjofpncpcpaaGreatDoor
open Go.ChangeShapes Go.WideShapes Go.ChangeAt Go.RowKit Go.Deep
section
variable {H:Type}
def Fits (N:Nat) (d:DataW H):Prop:=maxLen≤N∨Rows.uptoBulk d≤N
theorem bulk_pos (d:DataW H):1≤Rows.uptoBulk d:=by
 cases d with
 | lit l=>cases l<;>simp [Rows.uptoBulk]
 | nil=>simp [Rows.uptoBulk]
 | ptr d=>simp [Rows.uptoBulk]
 | slice a b=>simp [Rows.uptoBulk]
 | agg p=>simp [Rows.uptoBulk]
 | iface t d=>simp [Rows.uptoBulk]
 | map e=>simp [Rows.uptoBulk]
 | held h=>simp [Rows.uptoBulk]
theorem bulk_mem:∀ (l:List (DataW H)) (d:DataW H),d∈l→Rows.uptoBulk d≤Rows.uptoBulkAll l
 | [],_,h=>by cases h
 | x::r,d,h=>by
   simp only [Rows.uptoBulkAll]
   rcases List.mem_cons.1 h with rfl | h
   ·omega
   ·have:=bulk_mem r d h;omega
theorem bulk_len:∀ (l:List (DataW H)),l.length≤Rows.uptoBulkAll l
 | []=>by simp
 | x::r=>by
   have h1:=bulk_pos x
   have h2:=bulk_len r
   simp only [Rows.uptoBulkAll,List.length_cons]
   omega
theorem Fits.part {N:Nat} {l:List (DataW H)} (h:Fits N (.agg l)) {d:DataW H} (hd:d∈l):Fits N d:=by
 rcases h with h | h
 ·exact .inl h
 ·right
  simp only [Rows.uptoBulk] at h
  have:=bulk_mem l d hd
  omega
theorem Fits.len {N:Nat} {l s:List (DataW H)} (h:Fits N (.slice l s)) (hl:l.length≤maxLen):l.length≤N:=by
 rcases h with h | h
 ·omega
 ·simp only [Rows.uptoBulk] at h
  have:=bulk_len l
  omega
end
section
variable {H:Type} {enc:TypeId×Value→H} {P:Program} {w:World} {base:Nat} {spare:Nat→Bool} {held:Bool}
end
section
variable {H:Type} {enc:TypeId×Value→H} {w:World} {base:Nat} {spare:Nat→Bool} {held:Bool}
end
end Go.Proofs.YtagkjofpncpcpaaGreatDoor
