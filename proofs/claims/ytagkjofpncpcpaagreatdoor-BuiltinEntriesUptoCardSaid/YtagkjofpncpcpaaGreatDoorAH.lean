/- The characters of a valid string: where they begin and end. No program here. -/
import Derived.Test.YtagkjofpncpcpaaGreatDoorProg
import Derived.Test.YtagkjofpncpcpaaGreatDoorGA
import Derived.Test.YtagkjofpncpcpaaGreatDoorUtf8D
import Derived.Lib.DecodeN
import Derived.Lib.RuneCountTail
import Derived.Lib.Join
import Derived.Lib.IndexLaws
import Derived.Lib.CountLaws
import Derived.Lib.SplitLaws
import Derived.Lib.CutLaws
import Derived.WalkKit
import Derived.WalkSpells
import Derived.WalkLawsBesides
import Derived.LoopTactic
import Derived.BigQuiet
import Derived.Deep.QuietTactic
import Derived.Laws.BytesArg
import Derived.OwnWalk
import Derived.Shelf.Strings.OnBuilder
import Derived.Shelf.Strings.Trim
import Derived.Shelf.Strings.Search3
import Derived.Shelf.Strings.Fields
import Derived.Shelf.Slices.Turned
import Derived.Deep.AppendLies
import Derived.Lib.Repeat
import Derived.Laws.OwnMore
import Derived.Lib.SliceRun
import Derived.OrdersHeld
import Derived.Laws.CopyOwn
import Derived.Deep.WholeRow
import Derived.Maps.OwnOps
import Derived.Maps.OwnSet
import Derived.Maps.Views
import Derived.Deep.Light
import Derived.Laws.CopyRow
import Derived.Lib.Bytealg
import Derived.StillTailTactics
import Derived.Deep.DeepCutAuto
import Derived.Great.BuildSlice
import Derived.Sort.Walk0
import Derived.Deep.DeepMust
import Derived.Lib.TrimByte
import Derived.Maps.AppendAt
namespace Go.Proofs.YtagkjofpncpcpaaGreatDoor
open Go.RowKit
theorem conts_bytes {s:ByteArray} {p:Nat} {c:Int}:∀ {k:Nat} {d:Int},conts s p c k=some d→∀ j,1≤j→j≤k→128≤byteAt s (p+j)∧byteAt s (p+j)<192
 | 0,d,_,j,h1,h2=>by omega
 | k+1,d,h,j,h1,h2=>by
   simp only [conts] at h
   cases hc:conts s p c k with
   | none=>rw [hc] at h;cases h
   | some e =>
     rw [hc] at h
     simp only at h
     by_cases hb:128≤byteAt s (p+(k+1))∧byteAt s (p+(k+1))<192
     ·by_cases hj:j=k+1
      ·rw [hj];exact hb
      ·exact conts_bytes hc j h1 (by omega)
     ·rw [if_neg hb] at h;cases h
theorem charAt_parts {s:ByteArray} {p:Nat} (h:charAt s p≠0):charAt s p=(lead (byteAt s p)).1∧p+charAt s p≤s.size∧(byteAt s p<128∨194≤byteAt s p)∧∀ j,1≤j→j<charAt s p→128≤byteAt s (p+j)∧byteAt s (p+j)<192:=by
 by_cases h1:(lead (byteAt s p)).1=0∨s.size<p+(lead (byteAt s p)).1
 ·exact absurd (by unfold charAt;rw [if_pos h1]) h
 ·cases hc:conts s p (lead (byteAt s p)).2.2 ((lead (byteAt s p)).1-1) with
  | none=>exact absurd (by unfold charAt;rw [if_neg h1,hc]) h
  | some c =>
    by_cases ho:outside (lead (byteAt s p)).2.1 c=true
    ·exact absurd (by unfold charAt;rw [if_neg h1,hc];simp only;rw [if_pos ho]) h
    ·have e:charAt s p=(lead (byteAt s p)).1:=by unfold charAt;rw [if_neg h1,hc];simp only;rw [if_neg ho]
     refine ⟨e,by rw [e];omega,?_,fun j hj1 hj2=>conts_bytes hc j hj1 (by rw [e] at hj2;omega)⟩
     by_cases hb:byteAt s p<128∨194≤byteAt s p
     ·exact hb
     ·rw [lead0 (by omega)] at h1
      exact absurd (Or.inl rfl) h1
end Go.Proofs.YtagkjofpncpcpaaGreatDoor
/- The model's decoder takes a valid character as long as it is. No program here. -/
namespace Go.Proofs.YtagkjofpncpcpaaGreatDoor
open Go.RowKit
end Go.Proofs.YtagkjofpncpcpaaGreatDoor
/- Parts of a valid string between two of its characters are valid. No program here. -/
namespace Go.Proofs.YtagkjofpncpcpaaGreatDoor
open Go.RowKit
theorem byteAt_extract (s:ByteArray) (a b q:Nat) (hb:b≤s.size) (h:a+q<b):byteAt (s.extract a b) q=byteAt s (a+q):=by
 have h1:a+q<s.size:=by omega
 have h2:q<(s.extract a b).size:=by simp;omega
 rw [← byteAt_eq s _ h1,← byteAt_eq _ _ h2]
 rw [ByteArray.getElem_extract]
theorem conts_extract (s:ByteArray) (a b q:Nat) (c:Int) (hb:b≤s.size):∀ k,a+q+k<b→conts (s.extract a b) q c k=conts s (a+q) c k
 | 0,_=>rfl
 | k+1,h=>by
   simp only [conts]
   rw [conts_extract s a b q c hb k (by omega),byteAt_extract s a b _ hb (by omega),show a+(q+(k+1))=a+q+(k+1) by omega]
theorem charAt_extract {s:ByteArray} {a b q:Nat} (hb:b≤s.size) (h0:charAt s (a+q)≠0) (h:a+q+charAt s (a+q)≤b):charAt (s.extract a b) q=charAt s (a+q):=by
 obtain ⟨e,hs,_,_⟩:=charAt_parts h0
 have hq:a+q<b:=by omega
 have hbyte:=byteAt_extract s a b q hb hq
 have hsz:(s.extract a b).size=b-a:=by simp;omega
 have hn:(lead (byteAt s (a+q))).1≠0:=by rw [← e];exact h0
 rw [e] at h hs
 have hc:=conts_extract s a b q (lead (byteAt s (a+q))).2.2 hb ((lead (byteAt s (a+q))).1-1) (by omega)
 unfold charAt
 rw [hbyte,hsz,hc]
 rw [if_neg (show ¬ ((lead (byteAt s (a+q))).1=0∨b-a<q+(lead (byteAt s (a+q))).1) by omega),if_neg (show ¬ ((lead (byteAt s (a+q))).1=0∨s.size<a+q+(lead (byteAt s (a+q))).1) by omega)]
inductive Run (s:ByteArray):Nat→Nat→Prop
 | nil (a:Nat):Run s a a
 | cons {a b:Nat} (h:charAt s a≠0) (t:Run s (a+charAt s a) b):Run s a b
theorem Run.le {s:ByteArray} {a b:Nat} (h:Run s a b):a≤b:=by
 induction h with
 | nil=>omega
 | cons _ _ ih=>omega
theorem Run.valid {s:ByteArray} {a b q c:Nat} (hb:b≤s.size) (hc:a+q=c) (h:Run s c b) (hab:a≤b):okFrom (s.extract a b) ((s.extract a b).size-q) q=true:=by
 have hsz:(s.extract a b).size=b-a:=by simp;omega
 induction h generalizing q with
 | nil c=>exact okFrom_end _ _ (by omega)
 | @cons c b h0 t ih =>
   have hle:=t.le
   have e:=charAt_extract (s:=s) (a:=a) (b:=b) (q:=q) hb (by rw [hc];exact h0) (by rw [hc];exact hle)
   rw [hc] at e
   rw [okFrom_step _ q _ (by rw [hsz];omega) e h0]
   exact ih hb (by omega) hab hsz
theorem Run.validS {s:ByteArray} {a b:Nat} (hb:b≤s.size) (h:Run s a b):validS (s.extract a b)=true:=by
 have:=Run.valid (q:=0) hb (Nat.add_zero a) h h.le
 exact this
end Go.Proofs.YtagkjofpncpcpaaGreatDoor
/- The characters of a valid string,joined: the part from the first one to the last one. No program here. -/
namespace Go.Proofs.YtagkjofpncpcpaaGreatDoor
open Go.RowKit
inductive Spans (s:ByteArray):Nat→List (Nat×Nat)→Prop
 | nil:Spans s s.size []
 | cons {p:Nat} {l:List (Nat×Nat)} (h:charAt s p≠0) (t:Spans s (p+charAt s p) l):Spans s p ((p,p+charAt s p)::l)
theorem Spans.le {s:ByteArray} {p:Nat} {l:List (Nat×Nat)} (h:Spans s p l):p≤s.size:=by
 induction h with
 | nil=>exact Nat.le_refl _
 | @cons p l h t ih=>omega
theorem Spans.first {s:ByteArray} {p:Nat} {l:List (Nat×Nat)} (h:Spans s p l):(match l[0]? with | some x=>x.1 | none=>s.size)=p:=by
 cases h with
 | nil=>rfl
 | cons=>rfl
theorem Spans.drop {s:ByteArray} {p:Nat} {l:List (Nat×Nat)} (h:Spans s p l):∀ k,k≤l.length→∃ q,Spans s q (l.drop k):=by
 induction h with
 | nil=>intro k hk;exact ⟨_,by rw [List.drop_nil];exact .nil⟩
 | @cons p l h t ih =>
   intro k hk
   cases k with
   | zero=>exact ⟨_,.cons h t⟩
   | succ k=>exact ih k (by simpa using hk)
end Go.Proofs.YtagkjofpncpcpaaGreatDoor

/- builtin.characters: the characters of a valid string. -/
namespace Go.Proofs.YtagkjofpncpcpaaGreatDoor
open Go.RowKit
def StrsAt (w:World) (l:List ByteArray) (a:Option Addr):Prop:=l=[]∨∃ b,a=some ⟨b,0,none⟩∧b<w.heap.size∧∀ (j:Nat) x,l[j]?=some x→w.cell? ⟨b,j,none⟩=some (.string x)
theorem StrsAt.below {w w':World} {l:List ByteArray} {a:Option Addr} (h:StrsAt w l a) (hb:Below w.heap.size w w'):StrsAt w' l a:=by
 rcases h with h | ⟨b,h1,h2,h3⟩
 ·exact .inl h
 ·exact .inr ⟨b,h1,Nat.lt_of_lt_of_le h2 hb.size,fun j x hx=>by rw [hb.cell (p:=⟨b,j,none⟩) h2];exact h3 j x hx⟩
end Go.Proofs.YtagkjofpncpcpaaGreatDoor
/- datakitref37.Chars: the characters of a valid string. -/
namespace Go.Proofs.YtagkjofpncpcpaaGreatDoor
open Go.RowKit
end Go.Proofs.YtagkjofpncpcpaaGreatDoor

/- What Slice gives. No program here. -/
namespace Go.Proofs.YtagkjofpncpcpaaGreatDoor
open Go.RowKit
end Go.Proofs.YtagkjofpncpcpaaGreatDoor
/- The bounds of a slice: builtin.bound,datakitref37.bound. -/
namespace Go.Proofs.YtagkjofpncpcpaaGreatDoor
open Go.RowKit
end Go.Proofs.YtagkjofpncpcpaaGreatDoor

/- datakitref37.texts: strings as values. -/
namespace Go.Proofs.YtagkjofpncpcpaaGreatDoor
open Go.RowKit
end Go.Proofs.YtagkjofpncpcpaaGreatDoor
/- Parts of rows,joined strings. -/
namespace Go.Proofs.YtagkjofpncpcpaaGreatDoor
open Go.RowKit
end Go.Proofs.YtagkjofpncpcpaaGreatDoor

/- The parts of a text between the occurrences of another: datakitref37.Find, datakitref37.Parts. -/
namespace Go.Proofs.YtagkjofpncpcpaaGreatDoor
open Go.RowKit
end Go.Proofs.YtagkjofpncpcpaaGreatDoor

/- A text split: builtin.texts, builtin.split; both sides' results. -/
namespace Go.Proofs.YtagkjofpncpcpaaGreatDoor
open Go.RowKit
end Go.Proofs.YtagkjofpncpcpaaGreatDoor
