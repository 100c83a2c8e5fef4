/- The functions of the reference's UTF-8 (datakitref03): they return, and write nothing that was there. -/
import Derived.Test.YtagkjofpncpcpaaGreatDoorProg
import Derived.Test.YtagkjofpncpcpaaGreatDoorGA
import Derived.WalkKit
import Derived.WalkSpells
import Derived.WalkLawsBesides
import Derived.LoopTactic
import Derived.BigQuiet
import Derived.Deep.QuietTactic
import Derived.Laws.BytesArg
import Derived.OwnWalk
namespace Go.Proofs.YtagkjofpncpcpaaGreatDoor
open Go.RowKit
theorem ret_bool {a b:Bool} (h:a=b):Ending.returned (.bool a)=.returned (.bool b):=by rw [h]
theorem ret_int {k:IntKind} {a b:Int} (h:a=b):Ending.returned (.int k a)=.returned (.int k b):=by rw [h]
theorem below_drewN (w:World) (m:Nat):Below w.heap.size w (w.drewN m):=⟨rfl,rfl,rfl,Nat.le_refl _,fun _ _=>rfl⟩
theorem conv_new (w:World) (xs:List Int) (n:Nat) (hn:xs.length=n) :
 (convert 27 9 (.slice (some ⟨w.heap.size,0,none⟩) n n)).run Tryz.prog (w.alloc (.cells (xs.map (Value.int .u8)).toArray 5))=.ok (.string (strOfNums xs)) (w.alloc (.cells (xs.map (Value.int .u8)).toArray 5)):=by
 refine run_convert_bytes_arg _ 27 5 Tryz.underlying27 Tryz.underlying5 w.heap.size 0 n n xs hn (fun i hi=>?_) 9 Tryz.underlying9
 have hi':i<xs.length:=by omega
 rw [World.cell?_alloc_new]
 simp [List.getElem?_eq_getElem hi']
@[go_sem] theorem conv_new1 (w:World) (a:Int):(convert 27 9 (.slice (some ⟨w.heap.size,0,none⟩) 1 1)).run Tryz.prog (w.alloc (.cells #[.int .u8 a] 5))=.ok (.string (strOfNums [a])) (w.alloc (.cells #[.int .u8 a] 5)):=conv_new w [a] 1 rfl
@[go_sem] theorem conv_new2 (w:World) (a b:Int):(convert 27 9 (.slice (some ⟨w.heap.size,0,none⟩) 2 2)).run Tryz.prog (w.alloc (.cells #[.int .u8 a,.int .u8 b] 5))=.ok (.string (strOfNums [a,b])) (w.alloc (.cells #[.int .u8 a,.int .u8 b] 5)):=conv_new w [a,b] 2 rfl
@[go_sem] theorem conv_new3 (w:World) (a b c:Int):(convert 27 9 (.slice (some ⟨w.heap.size,0,none⟩) 3 3)).run Tryz.prog (w.alloc (.cells #[.int .u8 a,.int .u8 b,.int .u8 c] 5))=.ok (.string (strOfNums [a,b,c])) (w.alloc (.cells #[.int .u8 a,.int .u8 b,.int .u8 c] 5)):=conv_new w [a,b,c] 3 rfl
@[go_sem] theorem conv_new4 (w:World) (a b c d:Int):(convert 27 9 (.slice (some ⟨w.heap.size,0,none⟩) 4 4)).run Tryz.prog (w.alloc (.cells #[.int .u8 a,.int .u8 b,.int .u8 c,.int .u8 d] 5))=.ok (.string (strOfNums [a,b,c,d])) (w.alloc (.cells #[.int .u8 a,.int .u8 b,.int .u8 c,.int .u8 d] 5)):=conv_new w [a,b,c,d] 4 rfl
def charB (r:Int):Bool:=decide (0≤r)&&decide (r≤1114111)&&(decide (r<55296) || decide (57343<r))
theorem char_any (r:Int) (w:World):Calls Tryz.prog 307 #[.int .i64 r] w fun e w'=>e=.returned (.bool (charB r))∧w=w':=by
 by_cases h0:0≤r<;>by_cases h1:r≤1114111<;>by_cases h2:r<55296<;>by_cases h3:57343<r <;>
 ·have hc:charB r=(decide (0≤r)&&decide (r≤1114111)&&(decide (r<55296) || decide (57343<r))):=rfl
  have HC:=Hd hc
  clear hc
  go_enter Tryz.func307,Tryz.ntmps307
  go_wp2
  go_ret
  refine ⟨ret_bool ?_,rfl⟩
  rw [HC.out]
  simp [*]
theorem info3:(Tryz.prog.info? 3).map (fun i=>(i.zero,i.size,i.bytes))=some (some (.int .i64 0),1,8):=by kernel_rfl
theorem ownsRow_lit (w:World) (e:TypeId) (x:Value):(w.alloc (.cells #[x] e)).ownsRow w.heap.size e 1 (.slice (some ⟨w.heap.size,0,none⟩) 1 1) 1 [x] :=
 ⟨by simp,.inr ⟨w.heap.size,1,#[x],rfl,Nat.le_refl _,heap_alloc_new w _,Nat.le_refl _,by decide,by simp,by simp⟩⟩
theorem ownsRow_below {w w':World} {base:Nat} {e:TypeId} {size:Nat} {v:Value} {n:Nat} {xs:List Value} (h:w.ownsRow base e size v n xs) (hb:Below w.heap.size w w'):w'.ownsRow base e size v n xs:=by
 obtain ⟨h1,h2⟩:=h
 refine ⟨h1,?_⟩
 rcases h2 with h2 | ⟨g,cap,cur,hv,hg,hh,r⟩
 ·exact Or.inl h2
 ·exact Or.inr ⟨g,cap,cur,hv,hg,by rw [hb.block g (Array.getElem?_eq_some_iff.1 hh).1];exact hh,r⟩
end Go.Proofs.YtagkjofpncpcpaaGreatDoor
