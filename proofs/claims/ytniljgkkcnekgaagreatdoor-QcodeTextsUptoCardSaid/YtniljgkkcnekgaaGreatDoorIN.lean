/- The names of the builtins and their numbers of arguments: what Names and Arity of the program and of the reference compute. -/
import Derived.Test.YtniljgkkcnekgaaGreatDoorProg
import Derived.Test.YtniljgkkcnekgaaGreatDoorGA
import Derived.Test.YtniljgkkcnekgaaGreatDoorGB
import Derived.Test.YtniljgkkcnekgaaGreatDoorGU
import Derived.Test.YtniljgkkcnekgaaGreatDoorGF
import Derived.Test.YtniljgkkcnekgaaGreatDoorHN
import Derived.Test.YtniljgkkcnekgaaGreatDoorGH
import Derived.Test.YtniljgkkcnekgaaGreatDoorGK
import Derived.WalkSmall
namespace Go.Proofs.YtniljgkkcnekgaaGreatDoor
open Go.RowKit
def nms:List (List UInt8):=[[95,103,114,111,117,112],[95,114,97,110,103,101],[97,98,115],[97,100,100],[97,108,108],[97,110,121],[99,101,105,108],[99,111,110,116,97,105,110,115],[101,110,100,115,119,105,116,104],[101,114,114,111,114],[102,108,97,116,116,101,110],[102,108,111,111,114],[102,114,111,109,95,101,110,116,114,105,101,115],[104,97,115],[106,111,105,110],[107,101,121,115],[108,101,110,103,116,104],[109,97,120],[109,105,110],[110,111,116],[113,117,111],[114,101,118,101,114,115,101],[114,111,117,110,100],[115,111,114,116],[115,112,108,105,116],[115,116,97,114,116,115,119,105,116,104],[116,101,115,116],[116,111,95,101,110,116,114,105,101,115],[116,111,98,121,116,101,115],[116,111,110,117,109,98,101,114],[116,111,115,116,114,105,110,103],[116,111,116,105,109,101],[116,121,112,101],[117,110,105,113,117,101],[118,97,108,117,101,115]]
def two:List (List UInt8):=[[95,114,97,110,103,101],[113,117,111]]
def one:List (List UInt8):=[[99,111,110,116,97,105,110,115],[101,110,100,115,119,105,116,104],[101,114,114,111,114],[104,97,115],[106,111,105,110],[115,112,108,105,116],[115,116,97,114,116,115,119,105,116,104],[116,101,115,116]]
def nmAt (i:Nat):ByteArray:=⟨(nms.getD i []).toArray⟩
def nmArr:Array Value:=(nms.map fun l=>Value.string ⟨l.toArray⟩).toArray
def MadeNames (w:World) (e:Ending) (w':World):Prop:=∃ b,e=.returned (.slice (some ⟨b,0,none⟩) 35 35)∧w.heap.size≤b∧b<w'.heap.size∧(∀ i,i<35→w'.cell? ⟨b,i,none⟩=some (.string (nmAt i)))∧Below w.heap.size w w'
theorem nmArr_at (i:Nat) (hi:i<35):nmArr[i]?=some (.string (nmAt i)):=by
 have hl:i<nms.length:=hi
 unfold nmArr nmAt
 simp [List.getElem?_eq_getElem hl]
theorem made_of (w:World):MadeNames w (.returned (.slice (some ⟨w.heap.size,0,none⟩) 35 35)) (w.alloc (.cells nmArr 9)) :=
 ⟨w.heap.size,rfl,Nat.le_refl _,by simp,fun i hi=>by rw [World.cell?_alloc_new];exact nmArr_at i hi,(Below.refl _ _).alloc (Nat.le_refl _) _⟩
theorem names_ref (w:World):Calls Tryz.prog 70 #[] w (MadeNames w):=by
 have HM:=Hd (made_of w)
 go_enter Tryz.func70,Tryz.ntmps70
 go_wp2_with fail
 go_ret
 exact HM.out
def TabAt (_:World):Prop:=True
def arN (l:List UInt8):Int:=if two.contains l then 2 else if one.contains l then 1 else 0
def arB (l:List UInt8):Bool:=two.contains l || one.contains l || nms.contains l
def Arity (s:ByteArray) (w:World) (e:Ending) (w':World):Prop:=e=.returned (.tuple #[.int .i64 (arN s.toList),.bool (arB s.toList)])∧Below w.heap.size w w'
theorem ar_two (s:ByteArray) (h:two.contains s.toList=true):arN s.toList=2∧arB s.toList=true:=by
 unfold arN arB
 rw [h]
 exact ⟨rfl,rfl⟩
theorem ar_one (s:ByteArray) (h:one.contains s.toList=true):arN s.toList=1∧arB s.toList=true:=by
 have h2:two.contains s.toList=false:=by
  have hm:s.toList∈one:=by simpa using h
  have key:∀ l∈one,two.contains l=false:=by decide
  exact key _ hm
 unfold arN arB
 rw [h,h2]
 exact ⟨rfl,rfl⟩
theorem ar_none (s:ByteArray) (h1:one.contains s.toList=false) (h2:two.contains s.toList=false):arN s.toList=0∧arB s.toList=nms.contains s.toList:=by
 unfold arN arB
 rw [h1,h2]
 exact ⟨rfl,rfl⟩
theorem not_mem_beq {ls:List (List UInt8)} {x:List UInt8} (h:ls.contains x=false) (l:List UInt8) (hl:l∈ls):(x==l)=false:=by
 have hn:¬ x∈ls:=by
  intro hm
  rw [← List.contains_iff_mem] at hm
  rw [h] at hm
  cases hm
 have:x≠l:=by
  rintro rfl
  exact hn hl
 simpa using this
theorem nmAt_toList (k:Nat):(nmAt k).toList=nms.getD k []:=by
 rw [ByteArray.toList_eq]
 rfl
theorem nm_true (s:ByteArray) (k:Nat) (hk:k<35) (h:((nmAt k).toList==s.toList)=true):nms.contains s.toList=true:=by
 have e:(nmAt k).toList=s.toList:=by simpa using h
 rw [List.contains_iff_mem,← e,nmAt_toList]
 have hk':k<nms.length:=hk
 have e2:nms.getD k []=nms[k]:=by simp [List.getD,List.getElem?_eq_getElem hk']
 rw [e2]
 exact List.getElem_mem _
theorem nm_false (s:ByteArray) (h:∀ j,j<35→((nmAt j).toList==s.toList)=false):nms.contains s.toList=false:=by
 cases hc:nms.contains s.toList
 ·rfl
 ·exfalso
  rw [List.contains_iff_mem] at hc
  obtain ⟨j,hj,e⟩:=List.getElem_of_mem hc
  have h1:=h j hj
  rw [nmAt_toList] at h1
  have e2:nms.getD j []=nms[j]:=by simp [List.getD,List.getElem?_eq_getElem hj]
  rw [e2,e] at h1
  simp at h1
set_option maxHeartbeats 1600000 in
theorem arity_ref37 (s:ByteArray) (w:World) (h:TabAt w):Calls Tryz.prog 43 #[.string s] w (Arity s w):=by
 have HT:=Hd h
 clear h
 cases h2:two.contains s.toList
 ·cases h1:one.contains s.toList
  ·have HA:=Hd (ar_none s h1 h2)
   have p0:=not_mem_beq h2 [95,114,97,110,103,101] (by decide)
   have p1:=not_mem_beq h2 [113,117,111] (by decide)
   have q0:=not_mem_beq h1 [99,111,110,116,97,105,110,115] (by decide)
   have q1:=not_mem_beq h1 [101,110,100,115,119,105,116,104] (by decide)
   have q2:=not_mem_beq h1 [101,114,114,111,114] (by decide)
   have q3:=not_mem_beq h1 [104,97,115] (by decide)
   have q4:=not_mem_beq h1 [106,111,105,110] (by decide)
   have q5:=not_mem_beq h1 [115,112,108,105,116] (by decide)
   have q6:=not_mem_beq h1 [115,116,97,114,116,115,119,105,116,104] (by decide)
   have q7:=not_mem_beq h1 [116,101,115,116] (by decide)
   clear h1 h2
   go_enter Tryz.func43,Tryz.ntmps43
   go_wp2_with fail
   refine (names_ref _).mono ?_
   rintro e w1 ⟨b,rfl,hb1,hb2,hb3,hb4⟩
   have H3:=Hd hb3
   have H4:=Hd hb4
   clear hb3 hb4
   go_wp2_with fail
   go_simp
   go_loop [5] (fun i=>∃ k:Nat,k≤35∧i=.int .i64 k∧∀ j,j<k→((nmAt j).toList==s.toList)=false) (fun i=>35-(intOf i).toNat)
   case atStart=>exact ⟨0,by omega,rfl,fun j hj=>absurd hj (by omega)⟩
   case round =>
    obtain ⟨k,hk,rfl,hr⟩:=hrel
    have HR:=Hd hr
    clear hr
    by_cases hlt:k<35
    ·have hc:=H3.out k hlt
     cases he:((nmAt k).toList==s.toList)
     ·have HE:=Hd he
      go_wp2_with fail
      go_round
      case rel=>exact ⟨k+1,by omega,by go_num,fun j hj=>by
       by_cases e:j=k
       ·subst e;exact HE.out
       ·exact HR.out j (by omega)⟩
      case measure=>simp [intOf];omega
     ·have HE:=Hd (nm_true s k hlt he)
      go_wp2_with fail
      go_ret2
      refine ⟨?_,H4.out⟩
      rw [HA.out.1,HA.out.2,HE.out]
      rfl
    ·obtain rfl:k=35:=by omega
     have HE:=Hd (nm_false s HR.out)
     go_wp2_with fail
     go_ret2
     refine ⟨?_,H4.out⟩
     rw [HA.out.1,HA.out.2,HE.out]
     rfl
  ·have HA:=Hd (ar_one s h1)
   have hm:s.toList∈one:=by simpa using h1
   have hm':s.toList=[99,111,110,116,97,105,110,115]∨s.toList=[101,110,100,115,119,105,116,104]∨s.toList=[101,114,114,111,114]∨s.toList=[104,97,115]∨s.toList=[106,111,105,110]∨s.toList=[115,112,108,105,116]∨s.toList=[115,116,97,114,116,115,119,105,116,104]∨s.toList=[116,101,115,116]:=by simpa [one] using hm
   clear h1 h2 hm
   rcases hm' with he | he | he | he | he | he | he | he
   all_goals
    go_enter Tryz.func43,Tryz.ntmps43
    go_wp2_with fail
    go_ret2
    refine ⟨?_,Below.refl _ _⟩
    rw [HA.out.1,HA.out.2]
    rfl
 ·have HA:=Hd (ar_two s h2)
  have hm:s.toList∈two:=by simpa using h2
  have hm':s.toList=[95,114,97,110,103,101]∨s.toList=[113,117,111]:=by simpa [two] using hm
  clear h2 hm
  rcases hm' with he | he
  all_goals
   go_enter Tryz.func43,Tryz.ntmps43
   go_wp2_with fail
   go_ret2
   refine ⟨?_,Below.refl _ _⟩
   rw [HA.out.1,HA.out.2]
   rfl
theorem TabAt.below {w w':World} (_:TabAt w) (_:Below w.heap.size w w'):TabAt w':=trivial
end Go.Proofs.YtniljgkkcnekgaaGreatDoor

/- Instructions of code: what their checks compute. No program here. -/
namespace Go.Proofs.YtniljgkkcnekgaaGreatDoor
open Go.RowKit
structure InsD where
 op:Int
 a:Int
 b:Int
 name:ByteArray
 val:ValD
def useA (op:Int):Int:=if op=5∨op=6∨op=21∨op=25∨op=13∨op=24∨op=28 then 1 else if op=14∨op=15∨op=16∨op=22∨op=26∨op=20 then 2 else if op=18 then 3 else if op=29 then 4 else 0
def useB (op:Int):Int:=if op=5∨op=6∨op=21∨op=25∨op=18∨op=20 then 1 else 0
def namO (op:Int):Bool:=decide (op=7∨op=11∨op=12∨op=13)
def withB (kind x:Int) (n:Nat):Bool :=
 if kind=1 then decide (0≤x∧x≤16384) else if kind=2 then decide (0≤x∧x<n) else if kind=3 then decide (-1≤x∧x<n) else if kind=4 then decide (1≤x∧x≤32∧x≠18∧x≠29) else true
def zerI41 (v:ValD):Bool :=
 decide (v.kind=0∧v.bool=false∧decB v.num ⟨false,⟨#[]⟩,0⟩=true∧timeB v.time ⟨0,0,0,0⟩=true∧v.text.size=0∧v.bytes.length=0∧v.list.length=0∧v.fields.length=0)
def plusL:List (List UInt8):=[[43],[45],[42],[47],[37]]
def compL:List (List UInt8):=[[61,61],[33,61],[60],[60,61],[62],[62,61]]
def zeroL:List (List UInt8):=[[116,114,97,99,107],[112,97,116,104]]
def oneL:List (List UInt8):=[[103,101,116,112,97,116,104],[100,101,108,112,97,116,104,115]]
def twoL:List (List UInt8):=[[115,101,116,112,97,116,104]]
def ariN (l:List UInt8):Int:=if zeroL.contains l then 0 else if oneL.contains l then 1 else if twoL.contains l then 2 else arN l
def ariB (l:List UInt8):Bool:=zeroL.contains l || oneL.contains l || twoL.contains l || arB l
def nameE (x:InsD):Int :=
 if x.op=7 then (if validS x.name=true∧x.name.size≤1024 then 0 else 16)
 else if x.op=11 then (if plusL.contains x.name.toList then 0 else 16)
 else if x.op=12 then (if compL.contains x.name.toList then 0 else 16)
 else if x.op=13 then (if ariB x.name.toList then (if ariN x.name.toList=x.a then 0 else 17) else 16)
 else 0
def badI (x:InsD):Bool:=decide ((useA x.op=0∧x.a≠0)∨(useB x.op=0∧x.b≠0)∨(namO x.op=false∧x.name.size≠0)∨(x.op≠1∧zerI41 x.val=false))
def insE (x:InsD) (n:Nat):Int :=
 if x.op<1∨30<x.op then 1 else if badI x=true then 1 else if withB (useA x.op) x.a n=false∨withB (useB x.op) x.b n=false then 2
 else if x.op=1 then chkD x.val else nameE x
def inssE (n:Nat):List InsD→Int
 | []=>0
 | x::r=>if insE x n=0 then inssE n r else insE x n
def codeE (start:Int) (l:List InsD):Int:=if start<0∨(l.length:Int)≤start then 2 else inssE l.length l
end Go.Proofs.YtniljgkkcnekgaaGreatDoor

/- Instructions in memory. -/
namespace Go.Proofs.YtniljgkkcnekgaaGreatDoor
open Go.RowKit
def InsD.At (w:World) (B N:Nat) (x:InsD) (cs:List Value):Prop:=∃ vs,cs=.int .i64 x.op::.int .i64 x.a::.int .i64 x.b::.string x.name::vs∧x.name.size≤N∧I64 x.op∧I64 x.a∧I64 x.b∧ValD.At w B N x.val vs
section
variable {w w':World} {B N:Nat} {x:InsD} {cs:List Value}
theorem InsD.At.below (h:InsD.At w B N x cs) (hb:Below B w w'):InsD.At w' B N x cs:=by
 obtain ⟨vs,h1,h2,h3,h4,h5,h6⟩:=h
 exact ⟨vs,h1,h2,h3,h4,h5,h6.below hb⟩
theorem InsD.At.mono {B':Nat} (h:InsD.At w B N x cs) (hB:B≤B'):InsD.At w B' N x cs:=by
 obtain ⟨vs,h1,h2,h3,h4,h5,h6⟩:=h
 exact ⟨vs,h1,h2,h3,h4,h5,h6.mono hB⟩
theorem InsD.At.len (h:InsD.At w B N x cs):cs.length=17:=by
 obtain ⟨vs,rfl,_,_,_,_,h6⟩:=h
 have:=h6.len
 simp [this]
theorem InsD.At.oneCell (h:InsD.At w B N x cs):∀ u∈cs,u.oneCell'=true:=by
 obtain ⟨vs,rfl,_,_,_,_,h6⟩:=h
 intro u hu
 simp only [List.mem_cons] at hu
 rcases hu with rfl | rfl | rfl | rfl | hu
 ·rfl
 ·rfl
 ·rfl
 ·rfl
 ·exact h6.oneCell u hu
structure InsD.Has (w:World) (B N:Nat) (x:InsD) (cs vs:List Value):Prop where
 op:cs[0]?=some (.int .i64 x.op)
 a:cs[1]?=some (.int .i64 x.a)
 b:cs[2]?=some (.int .i64 x.b)
 name:cs[3]?=some (.string x.name)
 nameN:x.name.size≤N
 opI:I64 x.op
 aI:I64 x.a
 bI:I64 x.b
 val:ValD.At w B N x.val vs
 cells:∀ (c:World) (b o:Nat),CellsAt c b o cs→CellsAt c b (o+4) vs
theorem InsD.At.has (h:InsD.At w B N x cs):∃ vs,InsD.Has w B N x cs vs:=by
 obtain ⟨vs,rfl,h2,h3,h4,h5,h6⟩:=h
 exact ⟨vs,rfl,rfl,rfl,rfl,h2,h3,h4,h5,h6,fun c b o hc=>hc.tail.tail.tail.tail⟩
end
def InssAt (w:World) (B N:Nat) (l:List InsD) (a:Option Addr):Prop:=l=[]∨∃ b o,a=some ⟨b,o,none⟩∧b<B∧∀ i (hi:i<l.length),∃ cs,CellsAt w b (o+i * 17) cs∧InsD.At w B N l[i] cs
theorem InssAt.below {w w':World} {B N:Nat} {l:List InsD} {a:Option Addr} (h:InssAt w B N l a) (hb:Below B w w'):InssAt w' B N l a:=by
 rcases h with h | ⟨b,o,h1,h2,h3⟩
 ·exact .inl h
 ·refine .inr ⟨b,o,h1,h2,fun i hi=>?_⟩
  obtain ⟨cs,g1,g2⟩:=h3 i hi
  exact ⟨cs,g1.below hb h2,g2.below hb⟩
theorem InssAt.get {w:World} {B N:Nat} {l:List InsD} {a:Option Addr} (h:InssAt w B N l a) {i:Nat} (hi:i<l.length):∃ b o,a=some ⟨b,o,none⟩∧b<B∧∃ cs,CellsAt w b (o+i * 17) cs∧InsD.At w B N l[i] cs:=by
 rcases h with h | ⟨b,o,h1,h2,h3⟩
 ·rw [h] at hi;simp at hi
 ·exact ⟨b,o,h1,h2,h3 i hi⟩
theorem sizeIns:(Tryz.prog.info? 41).map (·.size)=some 17:=by kernel_rfl
theorem inssE_step {n k:Nat} {l:List InsD} (h:k<l.length) (h0:insE l[k] n=0):inssE n (l.drop k)=inssE n (l.drop (k+1)):=by
 rw [List.drop_eq_getElem_cons h]
 simp only [inssE]
 rw [if_pos h0]
theorem inssE_stop {n k:Nat} {l:List InsD} (h:k<l.length) (h0:insE l[k] n≠0):inssE n (l.drop k)=insE l[k] n:=by
 rw [List.drop_eq_getElem_cons h]
 simp only [inssE]
 rw [if_neg h0]
theorem inssE_end {n:Nat} {l:List InsD}:inssE n (l.drop l.length)=0:=by rw [List.drop_length];rfl
end Go.Proofs.YtniljgkkcnekgaaGreatDoor

/- The small functions over instructions, of the program (qcode) and of the reference (datakitref41): what they give. -/
namespace Go.Proofs.YtniljgkkcnekgaaGreatDoor
open Go.RowKit
def Two41 (a b:Int) (w:World) (e:Ending) (w':World):Prop:=e=.returned (.tuple #[.int .i64 a,.int .i64 b])∧w'=w
def Boo41 (b:Bool) (w:World) (e:Ending) (w':World):Prop:=e=.returned (.bool b)∧w'=w
theorem ops30 {op:Int} (h:¬ (op<1∨30<op)):op=1∨op=2∨op=3∨op=4∨op=5∨op=6∨op=7∨op=8∨op=9∨op=10∨op=11∨op=12∨op=13∨op=14∨op=15∨op=16∨op=17∨op=18∨op=19∨op=20∨op=21∨op=22∨op=23∨op=24∨op=25∨op=26∨op=27∨op=28∨op=29∨op=30:=by omega
set_option maxRecDepth 100000 in
set_option maxHeartbeats 3200000 in
theorem uses_prog (op:Int) (w:World) (h:¬ (op<1∨30<op)):Calls Tryz.prog 12 #[.int .i64 op] w (Two41 (useA op) (useB op) w):=by
 rcases ops30 h with rfl | rfl | rfl | rfl | rfl | rfl | rfl | rfl | rfl | rfl | rfl | rfl | rfl | rfl | rfl | rfl | rfl | rfl | rfl | rfl | rfl | rfl | rfl | rfl | rfl | rfl | rfl | rfl | rfl | rfl
 all_goals
  clear h
  go_enter Tryz.func12,Tryz.ntmps12
  go_wp2
  go_ret2
  exact ⟨rfl,rfl⟩
set_option maxRecDepth 100000 in
set_option maxHeartbeats 3200000 in
theorem named_prog (op:Int) (w:World) (h:¬ (op<1∨30<op)):Calls Tryz.prog 18 #[.int .i64 op] w (Boo41 (namO op) w):=by
 rcases ops30 h with rfl | rfl | rfl | rfl | rfl | rfl | rfl | rfl | rfl | rfl | rfl | rfl | rfl | rfl | rfl | rfl | rfl | rfl | rfl | rfl | rfl | rfl | rfl | rfl | rfl | rfl | rfl | rfl | rfl | rfl
 all_goals
  clear h
  go_enter Tryz.func18,Tryz.ntmps18
  go_wp2
  go_ret
  exact ⟨rfl,rfl⟩
def refA (op:Int):Int:=if op=13 then 5 else useA op
set_option maxRecDepth 100000 in
set_option maxHeartbeats 3200000 in
theorem fields_ref (op:Int) (w:World) (h:¬ (op<1∨30<op)):Calls Tryz.prog 15 #[.int .i64 op] w (fun e w'=>e=.returned (.tuple #[.int .i64 (refA op),.int .i64 (useB op),.bool (namO op)])∧w'=w):=by
 rcases ops30 h with rfl | rfl | rfl | rfl | rfl | rfl | rfl | rfl | rfl | rfl | rfl | rfl | rfl | rfl | rfl | rfl | rfl | rfl | rfl | rfl | rfl | rfl | rfl | rfl | rfl | rfl | rfl | rfl | rfl | rfl
 all_goals
  clear h
  go_enter Tryz.func15,Tryz.ntmps15
  go_wp2
  go_ret3
  exact ⟨rfl,rfl⟩
theorem useA_kinds (op:Int):useA op=0∨useA op=1∨useA op=2∨useA op=3∨useA op=4:=by
 unfold useA
 (repeat' split)<;>simp
theorem useB_kinds (op:Int):useB op=0∨useB op=1:=by
 unfold useB
 split<;>simp
end Go.Proofs.YtniljgkkcnekgaaGreatDoor

/- The zero value (qcode.zero, datakitref41.zero), the arity of the machine's builtins (qcode.arity, datakitref41.Builtin): what they give. -/
namespace Go.Proofs.YtniljgkkcnekgaaGreatDoor
open Go.RowKit
theorem zerI41_iff (v:ValD):zerI41 v=true↔(v.kind=0∧v.bool=false∧decB v.num ⟨false,⟨#[]⟩,0⟩=true∧timeB v.time ⟨0,0,0,0⟩=true∧v.text.toList=[]∧(v.bytes.length:Int)=0∧(v.list.length:Int)=0∧(v.fields.length:Int)=0):=by
 unfold zerI41
 rw [decide_eq_true_eq,toList_nil_iff]
 simp only [Int.natCast_eq_zero]
set_option maxRecDepth 100000 in
set_option maxHeartbeats 3200000 in
theorem zero_ref (v:ValD) (w:World) (B N:Nat) (cs:List Value) (hv:ValD.At w B N v cs):Calls Tryz.prog 25 #[.agg cs.toArray] w (BolR (zerI41 v) w):=by
 obtain ⟨ya,la,va,yc,lc,vc,hh⟩:=hv.has
 clear hv
 have c0:=hh.kind
 have c1:=hh.bool
 have c2:=hh.neg
 have c3:=hh.digits
 have c4:=hh.exp
 have c5:=hh.tkind
 have c6:=hh.day
 have c7:=hh.nano
 have c8:=hh.offset
 have c9:=hh.text
 have c10:=hh.bytes
 have c11:=hh.list
 have c12:=hh.fields
 clear hh
 have E1:=eqDEC0 v.num
 have E2:=eqTIME0 v.time
 have G1:=guardDEC
 have G2:=guardTIME
 have HO:=Hd (zerI41_iff v)
 generalize zerI41 v=ob at *
 generalize decB v.num ⟨false,⟨#[]⟩,0⟩=db at *
 generalize timeB v.time ⟨0,0,0,0⟩=tb at *
 generalize v.bytes.length=n1 at *
 generalize v.list.length=n2 at *
 generalize v.fields.length=n3 at *
 go_enter Tryz.func25,Tryz.ntmps25
 go_wp2
 all_goals
  go_ret
  refine ⟨ret_bool (bool_of ?_),Below.box _ _⟩
  have hv:=HO.out
  clear HO E1 E2 G1 G2 c0 c1 c2 c3 c4 c5 c6 c7 c8 c9 c10 c11 c12
  go_light
  grind
def AriR (s:ByteArray) (w:World) (e:Ending) (w':World):Prop:=e=.returned (.tuple #[.int .i64 (ariN s.toList),.bool (ariB s.toList)])∧Below w.heap.size w w'
theorem ari_zero (s:ByteArray) (h:zeroL.contains s.toList=true):ariN s.toList=0∧ariB s.toList=true:=by
 unfold ariN ariB
 rw [if_pos h,h]
 exact ⟨rfl,rfl⟩
theorem ari_one (s:ByteArray) (h0:zeroL.contains s.toList=false) (h:oneL.contains s.toList=true):ariN s.toList=1∧ariB s.toList=true:=by
 unfold ariN ariB
 rw [h0,h]
 exact ⟨rfl,rfl⟩
theorem ari_two (s:ByteArray) (h0:zeroL.contains s.toList=false) (h1:oneL.contains s.toList=false) (h:twoL.contains s.toList=true):ariN s.toList=2∧ariB s.toList=true:=by
 unfold ariN ariB
 rw [h0,h1,h]
 exact ⟨rfl,rfl⟩
theorem ari_else (s:ByteArray) (h0:zeroL.contains s.toList=false) (h1:oneL.contains s.toList=false) (h:twoL.contains s.toList=false):ariN s.toList=arN s.toList∧ariB s.toList=arB s.toList:=by
 unfold ariN ariB
 rw [h0,h1,h]
 exact ⟨rfl,rfl⟩
set_option maxHeartbeats 1600000 in
theorem arity_ref (s:ByteArray) (w:World) (h:TabAt w):Calls Tryz.prog 29 #[.string s] w (AriR s w):=by
 have HT:=Hd h
 clear h
 cases h0:zeroL.contains s.toList
 ·cases h1:oneL.contains s.toList
  ·cases h2:twoL.contains s.toList
   ·have HA:=Hd (ari_else s h0 h1 h2)
    have p0:=not_mem_beq h0 [116,114,97,99,107] (by decide)
    have p1:=not_mem_beq h0 [112,97,116,104] (by decide)
    have p2:=not_mem_beq h1 [103,101,116,112,97,116,104] (by decide)
    have p3:=not_mem_beq h1 [100,101,108,112,97,116,104,115] (by decide)
    have p4:=not_mem_beq h2 [115,101,116,112,97,116,104] (by decide)
    clear h0 h1 h2
    go_enter Tryz.func29,Tryz.ntmps29
    go_wp2_with fail
    refine (arity_ref37 s _ HT.out).mono ?_
    rintro e w' ⟨rfl,hb⟩
    have HB:=Hd hb
    obtain ⟨n,hn⟩:∃ n,arN s.toList=n:=⟨_,rfl⟩
    obtain ⟨b,hb2⟩:∃ b,arB s.toList=b:=⟨_,rfl⟩
    rw [hn,hb2] at HA ⊢
    clear hb hn hb2
    go_wp2_with fail
    go_ret2
    refine ⟨?_,HB.out⟩
    rw [HA.out.1,HA.out.2]
    rfl
   ·have HA:=Hd (ari_two s h0 h1 h2)
    have hm:s.toList∈twoL:=by simpa using h2
    have he:s.toList=[115,101,116,112,97,116,104]:=by simpa [twoL] using hm
    clear h0 h1 h2 hm
    go_enter Tryz.func29,Tryz.ntmps29
    go_wp2_with fail
    go_ret2
    refine ⟨?_,Below.refl _ _⟩
    rw [HA.out.1,HA.out.2]
    rfl
  ·have HA:=Hd (ari_one s h0 h1)
   have hm:s.toList∈oneL:=by simpa using h1
   have hm':s.toList=[103,101,116,112,97,116,104]∨s.toList=[100,101,108,112,97,116,104,115]:=by simpa [oneL] using hm
   clear h0 h1 hm
   rcases hm' with he | he
   all_goals
    go_enter Tryz.func29,Tryz.ntmps29
    go_wp2_with fail
    go_ret2
    refine ⟨?_,Below.refl _ _⟩
    rw [HA.out.1,HA.out.2]
    rfl
 ·have HA:=Hd (ari_zero s h0)
  have hm:s.toList∈zeroL:=by simpa using h0
  have hm':s.toList=[116,114,97,99,107]∨s.toList=[112,97,116,104]:=by simpa [zeroL] using hm
  clear h0 hm
  rcases hm' with he | he
  all_goals
   go_enter Tryz.func29,Tryz.ntmps29
   go_wp2_with fail
   go_ret2
   refine ⟨?_,Below.refl _ _⟩
   rw [HA.out.1,HA.out.2]
   rfl
end Go.Proofs.YtniljgkkcnekgaaGreatDoor

/- The name of an instruction (qcode.name, datakitref41.named): what is wrong with it. -/
namespace Go.Proofs.YtniljgkkcnekgaaGreatDoor
open Go.RowKit
theorem int_ret {k k':Int} {w w':World} (h:k=k') (hb:Below w.heap.size w w'):IntB k w (.returned (.int .i64 k')) w':=by subst h;exact ⟨rfl,hb⟩
def namB (x:InsD):Bool :=
 if x.op=7 then (decide (x.name.size≤1024)&&validS x.name) else if x.op=11 then plusL.contains x.name.toList else if x.op=12 then compL.contains x.name.toList else if x.op=13 then ariB x.name.toList else true
theorem nameE_ref (x:InsD):nameE x=if namB x=false then 16 else if x.op=13∧ariN x.name.toList≠x.a then 17 else 0:=by
 unfold nameE namB
 by_cases h7:x.op=7
 ·rw [if_pos h7,if_pos h7]
  cases validS x.name<;>by_cases hs:x.name.size≤1024<;>simp [hs,h7]
 rw [if_neg h7,if_neg h7]
 by_cases h11:x.op=11
 ·rw [if_pos h11,if_pos h11]
  cases plusL.contains x.name.toList<;>simp [h11]
 rw [if_neg h11,if_neg h11]
 by_cases h12:x.op=12
 ·rw [if_pos h12,if_pos h12]
  cases compL.contains x.name.toList<;>simp [h12]
 rw [if_neg h12,if_neg h12]
 by_cases h13:x.op=13
 ·rw [if_pos h13,if_pos h13]
  cases ariB x.name.toList<;>by_cases hq:ariN x.name.toList=x.a<;>simp [hq,h13]
 ·rw [if_neg h13,if_neg h13]
  simp [h13]
end Go.Proofs.YtniljgkkcnekgaaGreatDoor

/- datakitref41.named, datakitref41.right: what they give. -/
namespace Go.Proofs.YtniljgkkcnekgaaGreatDoor
open Go.RowKit
set_option maxRecDepth 100000 in
set_option maxHeartbeats 6400000 in
theorem named_ref (x:InsD) (w:World) (B N:Nat) (cs:List Value) (hN:N≤1099511627776) (hA:TabAt w) (hx:InsD.At w B N x cs) :
 Calls Tryz.prog 28 #[.agg cs.toArray] w (BolR (namB x) w):=by
 obtain ⟨vs,hh⟩:=hx.has
 have z0:=hh.op
 have z3:=hh.name
 have hsz:x.name.size≤1099511627776:=Nat.le_trans hh.nameN hN
 have R0:=Hd (box_at w cs 41)
 have H0:=Hd (belowBox w (.cells cs.toArray 41))
 have HS:=Hd (World.size_alloc w (.cells cs.toArray 41))
 have HA:=Hd hA
 clear hh hx hA
 by_cases h7:x.op=7
 ·rw [h7] at z0
  have HR:=Hd (show namB x=(decide (x.name.size≤1024)&&validS x.name) by unfold namB;rw [if_pos h7])
  clear h7
  by_cases hs:x.name.size≤1024
  ·have hs2:(x.name.size:Int)≤1024:=by omega
   go_enter Tryz.func28,Tryz.ntmps28
   go_wp2_with fail
   refine (bad35 x.name _ hsz).mono ?_
   rintro e w1 ⟨k,rfl,hk,m,rfl⟩
   have HK:=Hd hk
   have HD:=Hd (below_drewN (w.alloc (.cells cs.toArray 41)) m)
   clear hk
   by_cases hk0:k<0
   ·have HV:=Hd (HK.out.1 hk0)
    go_wp2_with fail
    go_ret
    exact ⟨ret_bool (by rw [HR.out,HV.out];simp [hs]),belowThen H0.out HD.out⟩
   ·have HV:=Hd (show validS x.name=false by
     cases hv:validS x.name
     ·rfl
     ·exact absurd (HK.out.2 hv) hk0)
    have hk1:=Hd (show 0≤k by omega)
    have hk2:0≤k:=by omega
    clear hk0
    go_wp2_with fail
    go_ret
    exact ⟨ret_bool (by rw [HR.out,HV.out];simp;omega),belowThen H0.out HD.out⟩
  ·have hs2:(1024:Int)<(x.name.size:Int):=by omega
   go_enter Tryz.func28,Tryz.ntmps28
   go_wp2_with fail
   go_ret
   exact ⟨ret_bool (by rw [HR.out];simp [hs]),H0.out⟩
 by_cases h11:x.op=11
 ·rw [h11] at z0
  cases hv:plusL.contains x.name.toList
  ·have HR:=Hd (show namB x=false by unfold namB;rw [if_neg h7,if_pos h11,hv])
   have p0:=not_mem_beq hv [43] (by decide)
   have p1:=not_mem_beq hv [45] (by decide)
   have p2:=not_mem_beq hv [42] (by decide)
   have p3:=not_mem_beq hv [47] (by decide)
   have p4:=not_mem_beq hv [37] (by decide)
   clear h11 hv h7
   go_enter Tryz.func28,Tryz.ntmps28
   go_wp2_with fail
   go_ret
   exact ⟨ret_bool HR.out.symm,H0.out⟩
  ·have HR:=Hd (show namB x=true by unfold namB;rw [if_neg h7,if_pos h11,hv])
   have hm:x.name.toList∈plusL:=by simpa using hv
   have hm':x.name.toList=[43]∨x.name.toList=[45]∨x.name.toList=[42]∨x.name.toList=[47]∨x.name.toList=[37]:=by simpa [plusL] using hm
   clear h11 hv hm h7
   rcases hm' with he | he | he | he | he
   all_goals
    go_enter Tryz.func28,Tryz.ntmps28
    go_wp2_with fail
    go_ret
    exact ⟨ret_bool HR.out.symm,H0.out⟩
 by_cases h12:x.op=12
 ·rw [h12] at z0
  cases hv:compL.contains x.name.toList
  ·have HR:=Hd (show namB x=false by unfold namB;rw [if_neg h7,if_neg h11,if_pos h12,hv])
   have p0:=not_mem_beq hv [61,61] (by decide)
   have p1:=not_mem_beq hv [33,61] (by decide)
   have p2:=not_mem_beq hv [60] (by decide)
   have p3:=not_mem_beq hv [60,61] (by decide)
   have p4:=not_mem_beq hv [62] (by decide)
   have p5:=not_mem_beq hv [62,61] (by decide)
   clear h12 hv h7 h11
   go_enter Tryz.func28,Tryz.ntmps28
   go_wp2_with fail
   go_ret
   exact ⟨ret_bool HR.out.symm,H0.out⟩
  ·have HR:=Hd (show namB x=true by unfold namB;rw [if_neg h7,if_neg h11,if_pos h12,hv])
   have hm:x.name.toList∈compL:=by simpa using hv
   have hm':x.name.toList=[61,61]∨x.name.toList=[33,61]∨x.name.toList=[60]∨x.name.toList=[60,61]∨x.name.toList=[62]∨x.name.toList=[62,61]:=by simpa [compL] using hm
   clear h12 hv hm h7 h11
   rcases hm' with he | he | he | he | he | he
   all_goals
    go_enter Tryz.func28,Tryz.ntmps28
    go_wp2_with fail
    go_ret
    exact ⟨ret_bool HR.out.symm,H0.out⟩
 by_cases h13:x.op=13
 ·rw [h13] at z0
  obtain ⟨b,hb⟩:∃ b,ariB x.name.toList=b:=⟨_,rfl⟩
  obtain ⟨n,hn⟩:∃ n,ariN x.name.toList=n:=⟨_,rfl⟩
  have HR:=Hd (show namB x=b by unfold namB;rw [if_neg h7,if_neg h11,if_neg h12,if_pos h13,hb])
  have HB:=Hd hb
  have HNN:=Hd hn
  clear h7 h11 h12 h13 hb hn
  go_enter Tryz.func28,Tryz.ntmps28
  go_wp2_with fail
  refine (arity_ref x.name _ (HA.out.below H0.out)).mono ?_
  rintro e w1 ⟨rfl,hb1⟩
  rw [HB.out,HNN.out]
  have H1:=Hd (belowThen H0.out hb1)
  clear hb1
  go_wp2_with fail
  go_ret
  exact ⟨ret_bool HR.out.symm,H1.out⟩
 ·obtain ⟨o,ho⟩:∃ o,x.op=o:=⟨_,rfl⟩
  have HR:=Hd (show namB x=true by unfold namB;rw [if_neg h7,if_neg h11,if_neg h12,if_neg h13])
  rw [ho] at z0 h7 h11 h12 h13
  have q1:(o==7)=false:=by simpa using h7
  have q2:(o==11)=false:=by simpa using h11
  have q3:(o==12)=false:=by simpa using h12
  have q4:(o==13)=false:=by simpa using h13
  clear h7 h11 h12 h13 ho
  go_enter Tryz.func28,Tryz.ntmps28
  go_wp2_with fail
  go_ret
  exact ⟨ret_bool HR.out.symm,H0.out⟩
theorem refA_kinds (op:Int):refA op=0∨refA op=1∨refA op=2∨refA op=3∨refA op=4∨refA op=5:=by
 unfold refA
 split
 ·simp
 ·have:=useA_kinds op
  omega
def withR (kind x:Int) (n:Nat):Bool:=if kind=5 then decide (0≤x∧x≤16384) else withB kind x n
theorem withR_eq (op x:Int) (n:Nat):withR (refA op) x n=withB (useA op) x n:=by
 unfold withR refA
 by_cases h:op=13
 ·rw [if_pos h,if_pos rfl,h]
  rfl
 ·rw [if_neg h,if_neg (by unfold useA;(repeat' split)<;>decide)]
set_option maxHeartbeats 3200000 in
theorem right_ref (k x:Int) (n:Nat) (w:World) (hk:k=0∨k=1∨k=2∨k=3∨k=4∨k=5):Calls Tryz.prog 26 #[.int .i64 k,.int .i64 x,.int .i64 n] w (Boo41 (withR k x n) w):=by
 have h0:0≤x∨x<0:=by omega
 have h1:x≤16384∨16384<x:=by omega
 have h2:x<n∨(n:Int)≤x:=by omega
 rcases hk with rfl | rfl | rfl | rfl | rfl | rfl
 all_goals
  go_enter Tryz.func26,Tryz.ntmps26
  go_wp2
  all_goals
   go_ret
   refine ⟨ret_bool ?_,rfl⟩
   simp only [withR,withB]
   grind
end Go.Proofs.YtniljgkkcnekgaaGreatDoor

/- The zero value is valid; so the program's check of an instruction is the reference's. No program here. -/
namespace Go.Proofs.YtniljgkkcnekgaaGreatDoor
open Go.RowKit
end Go.Proofs.YtniljgkkcnekgaaGreatDoor

/- qcode.check: what is wrong with an instruction. (Printed by gen41.py.) -/
namespace Go.Proofs.YtniljgkkcnekgaaGreatDoor
open Go.RowKit
theorem useBA {op:Int} (h:useB op≠0):useA op≠0:=by
 unfold useB at h
 split at h
 ·unfold useA
  (repeat' split)<;>omega
 ·exact absurd rfl h
theorem namB0 {op:Int} (h:namO op=true):useB op=0:=by
 have:=of_decide_eq_true h
 unfold useB
 rw [if_neg (by omega)]
end Go.Proofs.YtniljgkkcnekgaaGreatDoor

/- qcode.Check, datakitref41.Check: what is wrong with code. -/
namespace Go.Proofs.YtniljgkkcnekgaaGreatDoor
open Go.RowKit
def codeC (start:Int) (n:Nat) (a:Option Addr) (c:Nat):List Value:=[.int .i64 start,.slice a n c]
theorem codeE_ok {start:Int} {l:List InsD} (h:¬ (start<0∨(l.length:Int)≤start)):codeE start l=inssE l.length (l.drop 0):=by
 unfold codeE
 rw [if_neg h,List.drop_zero]
theorem TabAt.then {w w':World} (h:TabAt w) (hb:Below w.heap.size w w'):TabAt w':=h.below hb
end Go.Proofs.YtniljgkkcnekgaaGreatDoor
