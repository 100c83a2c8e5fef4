/- The zero value. -/
import Derived.Test.YticpebgjbfanpaaGreatDoorHQ
import Derived.Test.YticpebgjbfanpaaGreatDoorGB
namespace Go.Proofs.YticpebgjbfanpaaGreatDoor
open Go.RowKit
def zeroB (v:ValD):Bool :=
 decide (v.kind=0∧v.bool=false∧decB v.num ⟨false,⟨#[]⟩,0⟩=true∧timeB v.time ⟨0,0,0,0⟩=true∧v.text.size=0∧v.bytes.length=0∧v.list.length=0∧v.fields.length=0)
theorem zeroB_iff (v:ValD):zeroB v=true↔(v.kind=0∧v.bool=false∧decB v.num ⟨false,⟨#[]⟩,0⟩=true∧timeB v.time ⟨0,0,0,0⟩=true∧v.text.toList=[]∧(v.bytes.length:Int)=0∧(v.list.length:Int)=0∧(v.fields.length:Int)=0):=by
 unfold zeroB
 rw [decide_eq_true_eq,toList_nil_iff]
 simp only [Int.natCast_eq_zero]
end Go.Proofs.YticpebgjbfanpaaGreatDoor

/- What the check of an expression finds (layer 36): plain functions. No program here. -/
namespace Go.Proofs.YticpebgjbfanpaaGreatDoor
open Go.RowKit
def plusE:List (List UInt8):=[[43],[45],[42],[47],[37]]
def compE:List (List UInt8):=[[61,61],[33,61],[60],[60,61],[62],[62,61]]
def litB (v:ValD):Bool:=decide (v.kind=0∨v.kind=1∨(v.kind=2∧v.num.neg=false)∨v.kind=4)
def absB (e:ExprD):Bool:=decide (e.op=30∧e.name.size=0∧zeroB e.val=true∧e.args.length=0∧e.funcs.length=0)
def numE (op:Int):Int :=
 if op=1∨op=2∨op=3∨op=4∨op=27 then 0 else
 if op=5∨op=8∨op=11∨op=26∨op=23 then 1 else
 if op=6∨op=9∨op=10∨op=14∨op=15∨op=16∨op=28∨op=29∨op=12∨op=13∨op=22 then 2 else
 if op=7 then 3 else if op=17 then 2 else if op=18 then 3 else if op=19 then 3 else if op=20 then 4 else if op=24 then 1 else -1
def optE (op:Int):Nat:=if op=7∨op=17 then 1 else if op=18 then 2 else if op=20 then 3 else if op=24 then 0 else if op=21∨op=25 then 65536 else 9
def idnB (op:Int):Bool:=decide (op=4∨op=27∨op=19∨op=20∨op=22∨op=26)
def hasB (op:Int):Bool:=idnB op || decide (op=5∨op=12∨op=13∨op=21)
def operB (op:Int) (s:List UInt8):Bool:=if op=12 then plusE.contains s else compE.contains s
def argB (op:Int) (l:List ExprD) (i:Nat):Bool:=decide ((l.getD i default).op=30→optE op≤i∧absB (l.getD i default)=true)
def argsB (op:Int) (l:List ExprD):Bool:=(List.range l.length).all (argB op l)
def formB (e:ExprD):Bool :=
 decide (1≤e.op∧e.op≤29∧(0≤numE e.op→(e.args.length:Int)=numE e.op)∧(e.op=21→e.args.length≤8)∧(e.op=25→e.args.length % 2=0)∧argsB e.op e.args=true ∧
  ¬ (e.op=7∧(e.args.getD 1 default).op=30∧(e.args.getD 2 default).op=30)∧(hasB e.op=true∨e.name.size=0)∧(e.op=3∨zeroB e.val=true)∧(e.op=23∨e.funcs.length=0) ∧
  ((e.op=12∨e.op=13)→operB e.op e.name.toList=true)∧(e.op=3→litB e.val=true)∧(e.op=23→0<e.funcs.length))
def parsE (idB:ByteArray→Bool):List ByteArray→List ParD→Int
 | _,[]=>0
 | seen,p::r=>if idB p.name=false then 16 else if (seen.any fun s=>s.toList==p.name.toList)=true then 8 else parsE idB (seen++[p.name]) r
def headE (idB:ByteArray→Bool) (seen:List ByteArray) (nm:ByteArray) (ps:List ParD):Int :=
 if idB nm=false then 16 else if 8<ps.length then 10 else if parsE idB [] ps≠0 then parsE idB [] ps else if (seen.any fun s=>s.toList==nm.toList)=true then 8 else 0
def funsE (idB:ByteArray→Bool) (f:ExprD→Int→Int×Int):List ByteArray→List FuncD→Int→Int×Int
 | _,[],s=>(s,0)
 | seen,x::r,s=>if headE idB seen x.name x.params≠0 then (s,headE idB seen x.name x.params) else if (f x.body s).2≠0 then f x.body s else funsE idB f (seen++[x.name]) r (f x.body s).1
def kidE (m:Nat) (f:ExprD→Int→Int×Int) (e:ExprD) (s:Int):Int×Int :=
 if e.op=30 then (if m=0 then (s,9) else if 4096≤s then (s,10) else (s+1,0)) else f e s
def kidsE (m:Nat) (f:ExprD→Int→Int×Int):List ExprD→Int→Int×Int
 | [],s=>(s,0)
 | x::r,s=>if (kidE m f x s).2≠0 then kidE m f x s else kidsE m f r (kidE m f x s).1
def lookE (idB:ByteArray→Bool) (rgB:ExprD→Bool):Nat→ExprD→Int→Int×Int
 | 0,_,s=>(s,9)
 | m+1,e,s =>
   if 4096≤s then (s,10) else if formB e=false then (s+1,1) else if e.op=3∧chkD e.val≠0 then (s+1,chkD e.val) else if rgB e=false then (s+1,16)
   else if 256<e.funcs.length then (s+1,10)
   else if (funsE idB (lookE idB rgB m) [] e.funcs (s+1)).2≠0 then funsE idB (lookE idB rgB m) [] e.funcs (s+1)
   else kidsE m (lookE idB rgB m) e.args (funsE idB (lookE idB rgB m) [] e.funcs (s+1)).1
theorem form_funs {e:ExprD} (h:formB e=true) (h3:e.op≠23):e.funcs=[]:=by
 obtain ⟨_,_,_,_,_,_,_,_,_,hf,_⟩:=of_decide_eq_true h
 rcases hf with hf | hf
 ·exact absurd hf h3
 ·exact List.length_eq_zero_iff.1 hf
theorem funsE_step (idB:ByteArray→Bool) (f:ExprD→Int→Int×Int) {l:List FuncD} {i:Nat} (h:i<l.length) (seen:List ByteArray) (s:Int) :
 funsE idB f seen (l.drop i) s=if headE idB seen l[i].name l[i].params≠0 then (s,headE idB seen l[i].name l[i].params) else if (f l[i].body s).2≠0 then f l[i].body s else funsE idB f (seen++[l[i].name]) (l.drop (i+1)) (f l[i].body s).1:=by
 rw [List.drop_eq_getElem_cons h]
 rfl
theorem kidsE_step (m:Nat) (f:ExprD→Int→Int×Int) {l:List ExprD} {i:Nat} (h:i<l.length) (s:Int) :
 kidsE m f (l.drop i) s=if (kidE m f l[i] s).2≠0 then kidE m f l[i] s else kidsE m f (l.drop (i+1)) (kidE m f l[i] s).1:=by
 rw [List.drop_eq_getElem_cons h]
 rfl
theorem parsE_step (idB:ByteArray→Bool) {l:List ParD} {i:Nat} (h:i<l.length) (seen:List ByteArray) :
 parsE idB seen (l.drop i)=if idB l[i].name=false then 16 else if (seen.any fun s=>s.toList==l[i].name.toList)=true then 8 else parsE idB (seen++[l[i].name]) (l.drop (i+1)):=by
 rw [List.drop_eq_getElem_cons h]
 rfl
theorem lookE_range (idB:ByteArray→Bool) (rgB:ExprD→Bool):∀ (m:Nat) (e:ExprD) (s:Int),0≤s→s≤4096→0≤(lookE idB rgB m e s).1∧(lookE idB rgB m e s).1≤4096
 | 0,_,s,h0,h1=>⟨h0,h1⟩
 | m+1,e,s,h0,h1=>by
   have ih:=lookE_range idB rgB m
   have fun1:∀ (l:List FuncD) (seen:List ByteArray) (s:Int),0≤s→s≤4096→0≤(funsE idB (lookE idB rgB m) seen l s).1∧(funsE idB (lookE idB rgB m) seen l s).1≤4096:=by
    intro l
    induction l with
    | nil=>intro seen s h0 h1;exact ⟨h0,h1⟩
    | cons x r ihl =>
      intro seen s h0 h1
      simp only [funsE]
      split
      ·exact ⟨h0,h1⟩
      ·split
       ·exact ih _ _ h0 h1
       ·exact ihl _ _ (ih _ _ h0 h1).1 (ih _ _ h0 h1).2
   have kid1:∀ (x:ExprD) (s:Int),0≤s→s≤4096→0≤(kidE m (lookE idB rgB m) x s).1∧(kidE m (lookE idB rgB m) x s).1≤4096:=by
    intro x s h0 h1
    unfold kidE
    split
    ·split
     ·exact ⟨h0,h1⟩
     ·split
      ·exact ⟨h0,h1⟩
      ·exact ⟨by show 0≤s+1;omega,by show s+1≤4096;omega⟩
    ·exact ih _ _ h0 h1
   have kids1:∀ (l:List ExprD) (s:Int),0≤s→s≤4096→0≤(kidsE m (lookE idB rgB m) l s).1∧(kidsE m (lookE idB rgB m) l s).1≤4096:=by
    intro l
    induction l with
    | nil=>intro s h0 h1;exact ⟨h0,h1⟩
    | cons x r ihl =>
      intro s h0 h1
      simp only [kidsE]
      split
      ·exact kid1 _ _ h0 h1
      ·exact ihl _ (kid1 _ _ h0 h1).1 (kid1 _ _ h0 h1).2
   simp only [lookE]
   split
   ·exact ⟨h0,h1⟩
   split
   ·exact ⟨by show 0≤s+1;omega,by show s+1≤4096;omega⟩
   split
   ·exact ⟨by show 0≤s+1;omega,by show s+1≤4096;omega⟩
   split
   ·exact ⟨by show 0≤s+1;omega,by show s+1≤4096;omega⟩
   split
   ·exact ⟨by show 0≤s+1;omega,by show s+1≤4096;omega⟩
   split
   ·exact fun1 _ _ _ (by omega) (by omega)
   ·exact kids1 _ _ (fun1 _ _ _ (by omega) (by omega)).1 (fun1 _ _ _ (by omega) (by omega)).2
end Go.Proofs.YticpebgjbfanpaaGreatDoor
