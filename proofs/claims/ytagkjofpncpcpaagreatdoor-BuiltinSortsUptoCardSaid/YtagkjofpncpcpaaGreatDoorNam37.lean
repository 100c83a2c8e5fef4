/- The names of the builtins and their numbers of arguments: what Names and Arity of the program and of the reference compute. -/
import Derived.Test.YtagkjofpncpcpaaGreatDoorProg
import Derived.Test.YtagkjofpncpcpaaGreatDoorGA
import Derived.Test.YtagkjofpncpcpaaGreatDoorShelf
import Derived.OwnWalk
import Derived.WalkSmall
import Derived.WalkKit
import Derived.WalkSpells
import Derived.WalkLawsBesides
import Derived.LoopTactic
import Derived.BigQuiet
import Derived.Deep.QuietTactic
import Derived.Laws.BytesArg
namespace Go.Proofs.YtagkjofpncpcpaaGreatDoor
open Go.RowKit
def nms:List (List UInt8):=[[95,103,114,111,117,112],[95,114,97,110,103,101],[97,98,115],[97,100,100],[97,108,108],[97,110,121],[99,101,105,108],[99,111,110,116,97,105,110,115],[101,110,100,115,119,105,116,104],[101,114,114,111,114],[102,108,97,116,116,101,110],[102,108,111,111,114],[102,114,111,109,95,101,110,116,114,105,101,115],[104,97,115],[106,111,105,110],[107,101,121,115],[108,101,110,103,116,104],[109,97,120],[109,105,110],[110,111,116],[113,117,111],[114,101,118,101,114,115,101],[114,111,117,110,100],[115,111,114,116],[115,112,108,105,116],[115,116,97,114,116,115,119,105,116,104],[116,101,115,116],[116,111,95,101,110,116,114,105,101,115],[116,111,98,121,116,101,115],[116,111,110,117,109,98,101,114],[116,111,115,116,114,105,110,103],[116,111,116,105,109,101],[116,121,112,101],[117,110,105,113,117,101],[118,97,108,117,101,115]]
def two:List (List UInt8):=[[95,114,97,110,103,101],[113,117,111]]
def one:List (List UInt8):=[[99,111,110,116,97,105,110,115],[101,110,100,115,119,105,116,104],[101,114,114,111,114],[104,97,115],[106,111,105,110],[115,112,108,105,116],[115,116,97,114,116,115,119,105,116,104],[116,101,115,116]]
def nmAt (i:Nat):ByteArray:=⟨(nms.getD i []).toArray⟩
def nmArr:Array Value:=(nms.map fun l=>Value.string ⟨l.toArray⟩).toArray
def MadeNames (w:World) (e:Ending) (w':World):Prop:=∃ b,e=.returned (.slice (some ⟨b,0,none⟩) 35 35)∧w.heap.size≤b∧b<w'.heap.size∧(∀ i,i<35→w'.cell? ⟨b,i,none⟩=some (.string (nmAt i)))∧Below w.heap.size w w'
theorem nmArr_at (i:Nat) (hi:i<35):nmArr[i]?=some (.string (nmAt i)):=by
 have hl:i<nms.length:=hi
 unfold nmArr nmAt
 simp [List.getElem?_eq_getElem hl]
theorem made_of (w:World):MadeNames w (.returned (.slice (some ⟨w.heap.size,0,none⟩) 35 35)) (w.alloc (.cells nmArr 9)) :=
 ⟨w.heap.size,rfl,Nat.le_refl _,by simp,fun i hi=>by rw [World.cell?_alloc_new];exact nmArr_at i hi,(Below.refl _ _).alloc (Nat.le_refl _) _⟩
def TabAt (w : World) : Prop := Lib.TabIs Tryz.prog w "strings.asciiSpace" .u8 Lib.asciiSpaceTab
set_option maxRecDepth 100000 in
def nmText:List UInt8:=[95,103,114,111,117,112,32,95,114,97,110,103,101,32,97,98,115,32,97,100,100,32,97,108,108,32,97,110,121,32,99,101,105,108,32,99,111,110,116,97,105,110,115,32,101,110,100,115,119,105,116,104,32,101,114,114,111,114,32,102,108,97,116,116,101,110,32,102,108,111,111,114,32,102,114,111,109,95,101,110,116,114,105,101,115,32,104,97,115,32,106,111,105,110,32,107,101,121,115,32,108,101,110,103,116,104,32,109,97,120,32,109,105,110,32,110,111,116,32,113,117,111,32,114,101,118,101,114,115,101,32,114,111,117,110,100,32,115,111,114,116,32,115,112,108,105,116,32,115,116,97,114,116,115,119,105,116,104,32,116,101,115,116,32,116,111,95,101,110,116,114,105,101,115,32,116,111,98,121,116,101,115,32,116,111,110,117,109,98,101,114,32,116,111,115,116,114,105,110,103,32,116,111,116,105,109,101,32,116,121,112,101,32,117,110,105,113,117,101,32,118,97,108,117,101,115]
set_option maxRecDepth 100000 in
theorem nmText_fields:Lib.fields nmText=nms:=by decide +kernel
set_option maxRecDepth 100000 in
theorem nmText_ascii:nmText.all (fun b=>decide (b.toNat<128))=true:=by decide +kernel
set_option maxRecDepth 100000 in
theorem fields_prog (w:World) (h:TabAt w):Calls Tryz.prog 110 #[.string ⟨#[95,103,114,111,117,112,32,95,114,97,110,103,101,32,97,98,115,32,97,100,100,32,97,108,108,32,97,110,121,32,99,101,105,108,32,99,111,110,116,97,105,110,115,32,101,110,100,115,119,105,116,104,32,101,114,114,111,114,32,102,108,97,116,116,101,110,32,102,108,111,111,114,32,102,114,111,109,95,101,110,116,114,105,101,115,32,104,97,115,32,106,111,105,110,32,107,101,121,115,32,108,101,110,103,116,104,32,109,97,120,32,109,105,110,32,110,111,116,32,113,117,111,32,114,101,118,101,114,115,101,32,114,111,117,110,100,32,115,111,114,116,32,115,112,108,105,116,32,115,116,97,114,116,115,119,105,116,104,32,116,101,115,116,32,116,111,95,101,110,116,114,105,101,115,32,116,111,98,121,116,101,115,32,116,111,110,117,109,98,101,114,32,116,111,115,116,114,105,110,103,32,116,111,116,105,109,101,32,116,121,112,101,32,117,110,105,113,117,101,32,118,97,108,117,101,115]⟩] w (MadeNames w):=by
 refine (Tryz.strings_Fields ⟨nmText.toArray⟩ w (by show nmText.length<_;decide) (fun j b hj=>?_) h).mono ?_
 ·have:=List.all_eq_true.1 nmText_ascii b (List.mem_of_getElem? hj)
  simpa using this
 ·rintro e w' ⟨rfl,rfl⟩
  have e1:Lib.fields (⟨nmText.toArray⟩:ByteArray).data.toList=nms:=nmText_fields
  rw [e1]
  exact made_of w
set_option maxRecDepth 100000 in
theorem names_prog (w:World) (h:TabAt w):Calls Tryz.prog 45 #[] w (MadeNames w):=by
 have HT:=Hd h
 clear h
 go_enter Tryz.func45,Tryz.ntmps45
 go_wp2_with fail
 refine (fields_prog _ HT.out).mono ?_
 rintro e w' ⟨b,rfl,hb⟩
 go_wp2_with fail
 go_ret
 exact ⟨b,rfl,hb⟩
def arN (l:List UInt8):Int:=if two.contains l then 2 else if one.contains l then 1 else 0
def arB (l:List UInt8):Bool:=two.contains l || one.contains l || nms.contains l
def Arity (s:ByteArray) (w:World) (e:Ending) (w':World):Prop:=e=.returned (.tuple #[.int .i64 (arN s.toList),.bool (arB s.toList)])∧Below w.heap.size w w'
theorem ar_two (s:ByteArray) (h:two.contains s.toList=true):arN s.toList=2∧arB s.toList=true:=by
 unfold arN arB
 rw [h]
 exact ⟨rfl,rfl⟩
theorem ar_one (s:ByteArray) (h:one.contains s.toList=true):arN s.toList=1∧arB s.toList=true:=by
 have h2:two.contains s.toList=false:=by
  have hm:s.toList∈one:=by simpa using h
  have key:∀ l∈one,two.contains l=false:=by decide
  exact key _ hm
 unfold arN arB
 rw [h,h2]
 exact ⟨rfl,rfl⟩
theorem ar_none (s:ByteArray) (h1:one.contains s.toList=false) (h2:two.contains s.toList=false):arN s.toList=0∧arB s.toList=nms.contains s.toList:=by
 unfold arN arB
 rw [h1,h2]
 exact ⟨rfl,rfl⟩
def nmZs:List ByteArray:=nms.map fun l=>⟨l.toArray⟩
theorem nmZs_at (j:Nat):nmZs.getD j ByteArray.empty=nmAt j:=by
 unfold nmZs nmAt
 rw [List.getD,List.getD,List.getElem?_map]
 cases nms[j]?<;>rfl
theorem nmZs_contains (s:ByteArray):Lib.containsS (nmZs.take 35) s=nms.contains s.toList:=by
 rw [Bool.eq_iff_iff,Lib.containsS_iff]
 have e:nmZs.take 35=nmZs:=List.take_of_length_le (by decide)
 rw [e,List.contains_iff_mem]
 unfold nmZs
 constructor
 ·intro h
  obtain ⟨l,hl,rfl⟩:=List.mem_map.1 h
  rw [ByteArray.toList_eq]
  exact hl
 ·intro h
  refine List.mem_map.2 ⟨_,h,?_⟩
  rw [ByteArray.toList_eq]
theorem not_mem_beq {ls:List (List UInt8)} {x:List UInt8} (h:ls.contains x=false) (l:List UInt8) (hl:l∈ls):(x==l)=false:=by
 have hn:¬ x∈ls:=by
  intro hm
  rw [← List.contains_iff_mem] at hm
  rw [h] at hm
  cases hm
 have:x≠l:=by
  rintro rfl
  exact hn hl
 simpa using this
set_option maxHeartbeats 1600000 in
theorem arity_prog37 (s:ByteArray) (w:World) (h:TabAt w):Calls Tryz.prog 13 #[.string s] w (Arity s w):=by
 have HT:=Hd h
 clear h
 cases h2:two.contains s.toList
 ·cases h1:one.contains s.toList
  ·have HA:=Hd (ar_none s h1 h2)
   have p0:=not_mem_beq h2 [95,114,97,110,103,101] (by decide)
   have p1:=not_mem_beq h2 [113,117,111] (by decide)
   have q0:=not_mem_beq h1 [99,111,110,116,97,105,110,115] (by decide)
   have q1:=not_mem_beq h1 [101,110,100,115,119,105,116,104] (by decide)
   have q2:=not_mem_beq h1 [101,114,114,111,114] (by decide)
   have q3:=not_mem_beq h1 [104,97,115] (by decide)
   have q4:=not_mem_beq h1 [106,111,105,110] (by decide)
   have q5:=not_mem_beq h1 [115,112,108,105,116] (by decide)
   have q6:=not_mem_beq h1 [115,116,97,114,116,115,119,105,116,104] (by decide)
   have q7:=not_mem_beq h1 [116,101,115,116] (by decide)
   clear h1 h2
   go_enter Tryz.func13,Tryz.ntmps13
   go_wp2_with fail
   refine (names_prog _ HT.out).mono ?_
   rintro e w' ⟨b,rfl,hb1,hb2,hb3,hb4⟩
   have H3:=Hd hb3
   have H4:=Hd hb4
   clear hb3 hb4
   go_wp2_with fail
   refine (Tryz.slices_Contains_string b 0 35 35 nmZs s _ (by decide) (by decide) (fun j hj=>?_)).mono ?_
   ·have hj':j<35:=hj
    rw [Nat.zero_add,nmZs_at]
    exact H3.out j hj'
   rintro e w2 ⟨rfl,rfl⟩
   go_wp2_with fail
   go_ret2
   refine ⟨?_,H4.out⟩
   rw [HA.out.1,HA.out.2,← nmZs_contains]
   rfl
  ·have HA:=Hd (ar_one s h1)
   have hm:s.toList∈one:=by simpa using h1
   have hm':s.toList=[99,111,110,116,97,105,110,115]∨s.toList=[101,110,100,115,119,105,116,104]∨s.toList=[101,114,114,111,114]∨s.toList=[104,97,115]∨s.toList=[106,111,105,110]∨s.toList=[115,112,108,105,116]∨s.toList=[115,116,97,114,116,115,119,105,116,104]∨s.toList=[116,101,115,116]:=by simpa [one] using hm
   clear h1 h2 hm
   rcases hm' with he | he | he | he | he | he | he | he
   all_goals
    go_enter Tryz.func13,Tryz.ntmps13
    go_wp2_with fail
    go_ret2
    refine ⟨?_,Below.refl _ _⟩
    rw [HA.out.1,HA.out.2]
    rfl
 ·have HA:=Hd (ar_two s h2)
  have hm:s.toList∈two:=by simpa using h2
  have hm':s.toList=[95,114,97,110,103,101]∨s.toList=[113,117,111]:=by simpa [two] using hm
  clear h2 hm
  rcases hm' with he | he
  all_goals
   go_enter Tryz.func13,Tryz.ntmps13
   go_wp2_with fail
   go_ret2
   refine ⟨?_,Below.refl _ _⟩
   rw [HA.out.1,HA.out.2]
   rfl
theorem TabAt.below {w w':World} (h:TabAt w) (hb:Below w.heap.size w w'):TabAt w':=by
 have hg : Tryz.prog.globalNamed "strings.asciiSpace" = some 0 := by kernel_rfl
 have h0:=h.cell hg 0 (by rw [Lib.asciiSpaceTab_length];omega)
 have hlt:0<w.heap.size:=World.block_lt_of_cell? w ⟨0,0,none⟩ h0
 exact var?_below hb hg hlt h
end Go.Proofs.YtagkjofpncpcpaaGreatDoor
