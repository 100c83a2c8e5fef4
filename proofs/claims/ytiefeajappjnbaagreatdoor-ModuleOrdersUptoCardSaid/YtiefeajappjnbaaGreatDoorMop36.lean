/- Modules in memory. -/
import Derived.Test.YtiefeajappjnbaaGreatDoorMdf36
namespace Go.Proofs.YtiefeajappjnbaaGreatDoor
open Go.RowKit
structure ModD where
 name:ByteArray
 imps:List (ByteArray×ByteArray)
 funcs:List FuncD
 main:ExprD
def impC (i:ByteArray×ByteArray):List Value:=[.string i.1,.string i.2]
def ImpsAt (w:World) (B N:Nat):List (ByteArray×ByteArray)→Option Addr→Prop
 | [],_=>True
 | p::r,a=>∃ b o,a=some ⟨b,o,none⟩∧b<B∧(p.1.size≤N∧p.2.size≤N)∧CellsAt w b o (impC p)∧ImpsAt w B N r (some ⟨b,o+2,none⟩)
theorem ImpsAt.below {w w':World} {B N:Nat} (hb:Below B w w'):∀ (l:List (ByteArray×ByteArray)) {a:Option Addr},ImpsAt w B N l a→ImpsAt w' B N l a
 | [],_,_=>trivial
 | _::r,_,⟨b,o,h1,h2,h3,h4,h5⟩=>⟨b,o,h1,h2,h3,h4.below hb h2,ImpsAt.below hb r h5⟩
theorem ImpsAt.get {w:World} {B N:Nat}:∀ {l:List (ByteArray×ByteArray)} {a:Option Addr},ImpsAt w B N l a→l≠[]→∃ b o,a=some ⟨b,o,none⟩∧b<B∧∀ i (hi:i<l.length),(l[i].1.size≤N∧l[i].2.size≤N)∧CellsAt w b (o+i * 2) (impC l[i])
 | [],_,_,h=>absurd rfl h
 | p::r,_,⟨b,o,h1,h2,h3,h4,h5⟩,_=>by
   refine ⟨b,o,h1,h2,fun i hi=>?_⟩
   match i with
   | 0=>exact ⟨h3,by simpa using h4⟩
   | i+1 =>
     have hi':i<r.length:=by simpa using hi
     obtain ⟨b',o',e,_,hg⟩:=ImpsAt.get h5 (by intro h;simp [h] at hi')
     simp only [Option.some.injEq,Addr.mk.injEq,and_true] at e
     obtain ⟨rfl,rfl⟩:=e
     have:=hg i hi'
     rw [show o+2+i * 2=o+(i+1) * 2 by omega] at this
     exact this
structure ModHas (w:World) (B N:Nat) (m:ModD) (cs:List Value) (ia fa:Option Addr) (ic fc:Nat) (es:List Value):Prop where
 cs:cs=.string m.name::.slice ia m.imps.length ic::.slice fa m.funcs.length fc::es
 hn:m.name.size≤N
 hi:m.imps.length≤N
 hf:m.funcs.length≤N
 atImp:ImpsAt w B N m.imps ia
 atFun:FuncsAt w B N m.funcs fa
 atMain:ExprD.At w B N m.main es
def ModD.At (w:World) (B N:Nat) (m:ModD) (cs:List Value):Prop:=∃ ia fa ic fc es,ModHas w B N m cs ia fa ic fc es
theorem ModD.At.below {w w':World} {B N:Nat} {m:ModD} {cs:List Value} (h:ModD.At w B N m cs) (hb:Below B w w'):ModD.At w' B N m cs:=by
 obtain ⟨ia,fa,ic,fc,es,h⟩:=h
 exact ⟨ia,fa,ic,fc,es,h.cs,h.hn,h.hi,h.hf,h.atImp.below hb,FuncsAt.below hb _ h.atFun,h.atMain.below hb⟩
theorem ModHas.len {w:World} {B N:Nat} {m:ModD} {cs es:List Value} {ia fa:Option Addr} {ic fc:Nat} (h:ModHas w B N m cs ia fa ic fc es):cs.length=20:=by
 rw [h.cs]
 simp [h.atMain.len]
theorem ModD.At.len {w:World} {B N:Nat} {m:ModD} {cs:List Value} (h:ModD.At w B N m cs):cs.length=20:=by
 obtain ⟨_,_,_,_,_,h⟩:=h
 exact h.len
theorem ModHas.main {w:World} {B N:Nat} {m:ModD} {cs es:List Value} {ia fa:Option Addr} {ic fc:Nat} (h:ModHas w B N m cs ia fa ic fc es):(cs.drop 3).take 17=es:=by
 rw [h.cs]
 exact List.take_of_length_le (by rw [List.drop_succ_cons,List.drop_succ_cons,List.drop_succ_cons,List.drop_zero,h.atMain.len];exact Nat.le_refl _)
theorem sizeMOD:(Tryz.prog.info? 44).map (·.size)=some 20:=by kernel_rfl
theorem sizeIMP:(Tryz.prog.info? 78).map (·.size)=some 2:=by kernel_rfl
def impB (i:ByteArray×ByteArray):Bool:=identB i.1&&(decide (i.2.size=0) || identB i.2)
def modE (m:ModD):Int :=
 if identB m.name=false then 16 else if 16<m.imps.length then 10 else if m.imps.all impB=false then 16 else if fnO m.funcs≠0 then fnO m.funcs else if absB m.main=true then 0 else errE m.main
theorem imps_all {l:List (ByteArray×ByteArray)} (h:∀ j (hj:j<l.length),impB l[j]=true):l.all impB=true:=by
 rw [List.all_eq_true]
 intro x hx
 obtain ⟨i,hi,rfl⟩:=List.getElem_of_mem hx
 exact h i hi
theorem imps_bad {l:List (ByteArray×ByteArray)} {k:Nat} (hk:k<l.length) (h:impB l[k]=false):l.all impB=false:=by
 cases h2:l.all impB
 ·rfl
 ·rw [List.all_eq_true] at h2
  rw [h2 _ (List.getElem_mem hk)] at h
  cases h
theorem imp_bad1 {i:ByteArray×ByteArray} (h:identB i.1=false):impB i=false:=by unfold impB;rw [h];rfl
theorem imp_bad2 {i:ByteArray×ByteArray} (h0:i.2.size≠0) (h:identB i.2=false):impB i=false:=by unfold impB;rw [h];simp [h0]
theorem imp_ok0 {i:ByteArray×ByteArray} (h1:identB i.1=true) (h0:i.2.size=0):impB i=true:=by unfold impB;rw [h1];simp [h0]
theorem imp_ok2 {i:ByteArray×ByteArray} (h1:identB i.1=true) (h:identB i.2=true):impB i=true:=by unfold impB;rw [h1,h];simp
theorem modE_n {m:ModD} (h:identB m.name=false):modE m=16:=by unfold modE;rw [if_pos h]
theorem modE_s {m:ModD} (h:identB m.name=true) (h2:16<m.imps.length):modE m=10:=by unfold modE;rw [if_neg (by rw [h];simp),if_pos h2]
theorem modE_i {m:ModD} (h:identB m.name=true) (h2:¬ 16<m.imps.length) (h3:m.imps.all impB=false):modE m=16:=by unfold modE;rw [if_neg (by rw [h];simp),if_neg h2,if_pos h3]
theorem modE_f {m:ModD} (h:identB m.name=true) (h2:¬ 16<m.imps.length) (h3:m.imps.all impB=true):modE m=if fnO m.funcs≠0 then fnO m.funcs else if absB m.main=true then 0 else errE m.main:=by unfold modE;rw [if_neg (by rw [h];simp),if_neg h2,if_neg (by rw [h3];simp)]
theorem modE_0 {m:ModD} (h:modE m=0):identB m.name=true∧m.imps.length≤16∧m.imps.all impB=true∧fnO m.funcs=0∧(absB m.main=true∨errE m.main=0):=by
 unfold modE at h
 split at h
 ·simp at h
 split at h
 ·simp at h
 split at h
 ·simp at h
 split at h
 ·rename_i h4;exact absurd h h4
 rename_i h1 h2 h3 h4
 refine ⟨by simpa using h1,by omega,by simpa using h3,by omega,?_⟩
 split at h
 ·rename_i h5;exact .inl h5
 ·exact .inr h
theorem ident_size {s:ByteArray} (h:identB s=true):s.size≤64:=by
 unfold identB at h
 simp at h
 omega
theorem pars_ok:∀ (l:List ParD) (seen:List ByteArray),parsE identB seen l=0→∀ p∈l,p.name.size≤64
 | [],_,_,p,hp=>by cases hp
 | x::r,seen,h,p,hp=>by
   rw [parsE] at h
   split at h
   ·simp at h
   split at h
   ·simp at h
   rename_i h1 h2
   rcases List.mem_cons.1 hp with rfl | hp
   ·exact ident_size (by simpa using h1)
   ·exact pars_ok r _ h p hp
theorem head_ok {seen:List ByteArray} {nm:ByteArray} {ps:List ParD} (h:headE identB seen nm ps=0):ps.length≤8∧nm.size≤64∧∀ p∈ps,p.name.size≤64:=by
 unfold headE at h
 split at h
 ·simp at h
 rename_i h1
 split at h
 ·simp at h
 rename_i h2
 split at h
 ·rename_i h3;exact absurd h h3
 rename_i h3
 exact ⟨by omega,ident_size (by simpa using h1),pars_ok ps [] (Classical.not_not.1 h3)⟩
theorem funsO_0:∀ (l:List FuncD) (seen:List ByteArray),funsO seen l=0→∀ u∈l,u.params.length≤8∧errE u.body=0∧u.name.size≤64∧∀ p∈u.params,p.name.size≤64
 | [],_,_,u,hu=>by cases hu
 | x::r,seen,h,u,hu=>by
   rw [funsO] at h
   split at h
   ·rename_i h1;exact absurd h h1
   rename_i h1
   split at h
   ·rename_i h2;exact absurd h h2
   rename_i h2
   rcases List.mem_cons.1 hu with rfl | hu
   ·have h3:=Classical.not_not.1 h1
    obtain ⟨a,b,c⟩:=head_ok h3
    exact ⟨a,by omega,b,c⟩
   ·exact funsO_0 r _ h u hu
theorem fnO_0' {l:List FuncD} (h:fnO l=0):l.length≤256∧∀ u∈l,u.params.length≤8∧errE u.body=0∧u.name.size≤64∧∀ p∈u.params,p.name.size≤64:=by
 unfold fnO at h
 split at h
 ·simp at h
 ·exact ⟨by omega,funsO_0 l [] h⟩
end Go.Proofs.YtiefeajappjnbaaGreatDoor
