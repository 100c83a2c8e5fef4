/- Rows of any type that may be written: one cell, a part, all of it. -/
import Derived.Test.YticpebgjbfanpaaGreatDoorCpx43
import Derived.Laws.CopyRow
import Derived.Test.YticpebgjbfanpaaGreatDoorGD
import Derived.Test.YticpebgjbfanpaaGreatDoorHE
import Derived.Test.YticpebgjbfanpaaGreatDoorGA
import Derived.Test.YticpebgjbfanpaaGreatDoorGZ
namespace Go.Proofs.YticpebgjbfanpaaGreatDoor
open Go.RowKit
def RowT (t:TypeId) (w:World) (b:Nat) (cs:List Value):Prop:=w.heap[b]?=some (.cells cs.toArray t (0,0))
theorem RowT.cell {t:TypeId} {w:World} {b j:Nat} {cs:List Value} {v:Value} (h:RowT t w b cs) (hv:cs[j]?=some v):w.cell? ⟨b,j,none⟩=some v:=by
 rw [cell_of_row w b j _ _ _ h];simpa using hv
theorem RowT.frozen {t:TypeId} {w:World} {b:Nat} {cs:List Value} (h:RowT t w b cs) (j:Nat):w.frozen? ⟨b,j,none⟩=false:=frozen_of_row w b j _ _ h
theorem RowT.lt {t:TypeId} {w:World} {b:Nat} {cs:List Value} (h:RowT t w b cs):b<w.heap.size:=(Array.getElem?_eq_some_iff.1 h).1
theorem RowT.below {t:TypeId} {w w':World} {B b:Nat} {cs:List Value} (h:RowT t w b cs) (hb:Below B w w') (hlt:b<B):RowT t w' b cs:=(hb.block b hlt).trans h
theorem RowT.then {t:TypeId} {w w':World} {b:Nat} {cs:List Value} (h:RowT t w b cs) (hb:Below w.heap.size w w'):RowT t w' b cs:=h.below hb h.lt
theorem RowT.cells {t:TypeId} {w:World} {b:Nat} {cs:List Value} (h:RowT t w b cs):CellsAt w b 0 cs:=fun j hj=>by
 rw [Nat.zero_add,cell_of_row w b j _ _ _ h]
 simp
theorem RowT.range {t:TypeId} {w:World} {b:Nat} {cs:List Value} (h:RowT t w b cs):w.rangeAt b 0 cs:=h.cells.range
theorem RowT.alloc {t:TypeId} {w:World} {b:Nat} {cs:List Value} (h:RowT t w b cs) (o:Obj):RowT t (w.alloc o) b cs:=(heap_alloc_old w o h.lt).trans h
theorem RowT.new (w:World) (t:TypeId) (cs:List Value):RowT t (w.alloc (.cells cs.toArray t)) w.heap.size cs:=heap_alloc_new w _
theorem RowT.drew {t:TypeId} {w:World} {b:Nat} {cs:List Value} (h:RowT t w b cs):RowT t w.drew b cs:=h
theorem RowT.set {t:TypeId} {w:World} {b:Nat} {cs:List Value} (h:RowT t w b cs) (j:Nat) (v:Value):RowT t (w.setCell ⟨b,j,none⟩ v) b (cs.set j v):=by
 unfold RowT
 rw [heap_setCell_same w b j _ _ _ h,List.setIfInBounds_toArray]
theorem RowT.setRow {t:TypeId} {w:World} {b:Nat} {cs:List Value} (h:RowT t w b cs) (new:List Value):RowT t (w.setRow b new.toArray) b new:=setRow_heap w b _ _ t _ h
theorem RowT.setRowOther {t:TypeId} {w:World} {b b':Nat} {cs:List Value} (h:RowT t w b cs) (hne:b≠b') (new:Array Value):RowT t (w.setRow b' new) b cs:=(setRow_other w b' b new hne).trans h
theorem cellsOfRange {w:World} {b o:Nat} {cs:List Value} (h:w.rangeAt b o cs):CellsAt w b o cs:=fun j hj=>by rw [List.getElem?_eq_getElem hj];exact h j _ (List.getElem?_eq_getElem hj)
theorem below_set {B b j:Nat} {w0 w:World} (h:Below B w0 w) (hb:B≤b) (v:Value):Below B w0 (w.setCell ⟨b,j,none⟩ v):=h.setCell hb _
theorem wp_store_at {P:Program} {o:Oper} {a:Act} {w:World} {K:Act→World→Prop} {Q:Exit→Act→World→Prop} (ty:TypeId) (x y:Operand) (ho:o.op=.store ty x y)
 (g q:Nat) (cells:List Value) (hx:a.eval x=.pointer (some ⟨g,q,none⟩)) (hy:a.eval y=.agg cells.toArray)
 (t:TypeId) (old new:List Value) (hg:RowT t w g old) (hi:(P.info? ty).map (·.size)=some cells.length)
 (hn:new=old.take q++cells++old.drop (q+cells.length)) (hfit:q+cells.length≤old.length) (h1:∀ v∈cells,v.oneCell'=true)
 (h:K (a.put o.dst undef) (w.setRow g new.toArray)):o.wp P a w K Q:=by
 have hst:=run_storeCells_at P g q t cells 0 old.toArray w hg (by simpa using hfit) h1
 have hrun:(storeVar ty ⟨g,q,none⟩ (.agg cells.toArray)).run P w=.ok () (w.setRow g new.toArray):=by
  cases hq:P.info? ty with
  | none=>simp [hq] at hi
  | some i =>
    have hs:cells.length=i.size:=by simp [hq] at hi;omega
    simp [storeVar,sizeOf,typeInfo,hq,Value.cells,hs,hn]
    simpa [hs] using hst
 unfold Oper.wp execOp
 simp only [ho,hx,hy,Instr.storeAt,Instr.sureAddr,Sem.run_bind,Sem.run_pure,Result.andThen_ok,hrun]
 exact h
theorem wpList_store_at {P:Program} {ops:Array Oper} {rest:List Oper} {o:Oper} {a:Act} {w:World} {Q:Exit→Act→World→Prop} (hgd:o.guard=none) (ty:TypeId) (x y:Operand) (ho:o.op=.store ty x y)
 (g q:Nat) (cells:List Value) (hx:a.eval x=.pointer (some ⟨g,q,none⟩)) (hy:a.eval y=.agg cells.toArray)
 (t:TypeId) (old new:List Value) (hg:RowT t w g old) (hi:(P.info? ty).map (·.size)=some cells.length)
 (hn:new=old.take q++cells++old.drop (q+cells.length)) (hfit:q+cells.length≤old.length) (h1:∀ v∈cells,v.oneCell'=true)
 (h:wpList P ops Q rest (a.put o.dst undef) (w.setRow g new.toArray)):wpList P ops Q (o::rest) a w :=
 wpList_plain hgd fun _ hK=>wp_store_at ty x y ho g q cells hx hy t old new hg hi hn hfit h1 (hK _ _ h)
theorem own_far {w:World} {base sz n g:Nat} {t:TypeId} {v:Value} {xs:List Value} {new:Array Value} (h:w.ownsRow base t sz v n xs) (hg:∀ q,v.ownBlock=some q→q≠g):(w.setRow g new).ownsRow base t sz v n xs:=by
 refine ⟨h.1,?_⟩
 rcases h.2 with hn | ⟨q,cap,cur,rfl,h1,h2,rest⟩
 ·exact .inl hn
 ·exact .inr ⟨q,cap,cur,rfl,h1,(setRow_other w g q new (hg q rfl)).trans h2,rest⟩
end Go.Proofs.YticpebgjbfanpaaGreatDoor

/- decimal.ToInt and datakitref02.ToInt: both compute the same of a valid decimal. -/
namespace Go.Proofs.YticpebgjbfanpaaGreatDoor
open Go.RowKit
def maxN:List UInt8:=[57,50,50,51,51,55,50,48,51,54,56,53,52,55,55,53,56,48,56]
def decT (d:DecD):ByteArray:=d.digits++zerosS d.exp.toNat
def toI (d:DecD):Int×Int :=
 if 19<d.digits.size+d.exp then (0,2)
 else if d.neg=true∧(decT d).toList=maxN then (-9223372036854775808,0)
 else (if d.neg then -(toIntF (decT d)).1 else (toIntF (decT d)).1,(toIntF (decT d)).2)
end Go.Proofs.YticpebgjbfanpaaGreatDoor

/- What an accepted expression is, node by node: its form, its literal, its absent arguments; and what of it is a selection or constant. No program here. -/
namespace Go.Proofs.YticpebgjbfanpaaGreatDoor
open Go.RowKit
end Go.Proofs.YticpebgjbfanpaaGreatDoor

/- The plan of a program, as the document has it, on trees: what is constant, what is a selection. No program here. -/
namespace Go.Proofs.YticpebgjbfanpaaGreatDoor
open Go.RowKit
structure SelD where
 each:Bool
 byIdx:Bool
 key:ByteArray
 index:Int
def SelD.cells (s:SelD):List Value:=[.bool s.each,.bool s.byIdx,.string s.key,.int .i64 s.index]
def argN (x:ExprD) (i:Nat):ExprD:=x.args.getD i default
def smlN (x:ExprD):Option Int:=if x.op=3∧x.val.kind=2∧0≤x.val.num.exp∧(toI x.val.num).2=0∧(toI x.val.num).1≤65536 then some (toI x.val.num).1 else none
def selOf (x:ExprD):Option SelD :=
 if x.op=5 then some ⟨false,false,x.name,0⟩ else if x.op=8 then some ⟨true,false,⟨#[]⟩,0⟩ else (smlN (argN x 1)).map fun n=>⟨false,true,⟨#[]⟩,n⟩
def stepS (g:ExprD→Option (List SelD)) (x:ExprD):Option (List SelD) :=
 if x.op=1 then some [] else if x.op=5∨x.op=6∨x.op=8 then (g (argN x 0)).bind fun l=>(selOf x).map fun s=>l++[s] else none
def selS:Nat→ExprD→Option (List SelD)
 | 0=>stepS fun _=>none
 | m+1=>stepS (selS m)
def stepC (g:ExprD→Bool) (x:ExprD):Bool :=
 if x.op=3 then true else if x.op=24 then decide ((argN x 0).op=30) || g (argN x 0) else if x.op=11∨x.op=25 then x.args.all g else false
def conS:Nat→ExprD→Bool
 | 0=>stepC fun _=>false
 | m+1=>stepC (conS m)
structure PlnD where
 mode:Int
 steps:List SelD
 name:ByteArray
 init:ExprD
 upd:ExprD
 body:ExprD
def zeroVD:ValD:=.mk 0 false ⟨false,⟨#[]⟩,0⟩ ⟨0,0,0,0⟩ ⟨#[]⟩ [] [] []
def zeroE:ExprD:=.mk 0 ⟨#[]⟩ zeroVD [] []
def identE:ExprD:=.mk 1 ⟨#[]⟩ zeroVD [] []
def okSel (o:Option (List SelD)):Option (List SelD):=o.bind fun l=>if 1≤l.length∧l.length≤48 then some l else none
def mainP (x:ExprD):ExprD:=if x.op=9 then argN x 0 else x
def bodyP (x:ExprD):ExprD:=if x.op=9 then argN x 1 else identE
def foldP (m:ExprD):Bool:=decide (m.op=19∨(m.op=20∧(argN m 3).op=30))
def planS (x:ExprD):Option PlnD :=
 if foldP (mainP x)=true then
  if conS 47 (argN (mainP x) 1)=false then none
  else (okSel (selS 47 (argN (mainP x) 0))).map fun l=>⟨if (mainP x).op=20 then 3 else 2,l,(mainP x).name,argN (mainP x) 1,argN (mainP x) 2,bodyP x⟩
 else (okSel (selS 47 (mainP x))).map fun l=>⟨1,l,⟨#[]⟩,zeroE,zeroE,bodyP x⟩
end Go.Proofs.YticpebgjbfanpaaGreatDoor

/- A plan in memory: its cells, what lies behind them; two readings of a selection are the same. -/
namespace Go.Proofs.YticpebgjbfanpaaGreatDoor
open Go.RowKit
def plnRow (m:Int) (sv:Value) (nm:ByteArray) (ics ucs bcs:List Value) (fv:Value):List Value:=.int .i64 m::sv::.string nm::(ics++(ucs++(bcs++[fv])))
theorem plnRow_len (m:Int) (sv:Value) (nm:ByteArray) {ics ucs bcs:List Value} (fv:Value) (h1:ics.length=17) (h2:ucs.length=17) (h3:bcs.length=17):(plnRow m sv nm ics ucs bcs fv).length=55:=by
 simp [plnRow,h1,h2,h3]
def SelsAt (w:World) (B:Nat) (l:List SelD) (a:Option Addr):Prop:=l=[]∨∃ b,a=some ⟨b,0,none⟩∧b<B∧CellsAt w b 0 (l.flatMap SelD.cells)
theorem SelsAt.below {w w':World} {B:Nat} {l:List SelD} {a:Option Addr} (h:SelsAt w B l a) (hb:Below B w w'):SelsAt w' B l a:=by
 rcases h with h | ⟨b,h1,h2,h3⟩
 ·exact .inl h
 ·exact .inr ⟨b,h1,h2,h3.below hb h2⟩
theorem SelsAt.mono {w:World} {B B':Nat} {l:List SelD} {a:Option Addr} (h:SelsAt w B l a) (hb:B≤B'):SelsAt w B' l a:=by
 rcases h with h | ⟨b,h1,h2,h3⟩
 ·exact .inl h
 ·exact .inr ⟨b,h1,Nat.lt_of_lt_of_le h2 hb,h3⟩
theorem sels_take:∀ (l:List SelD) (i:Nat) (hi:i<l.length),((l.flatMap SelD.cells).drop (i * 4)).take 4=l[i].cells
 | p::r,0,_=>by simp [SelD.cells]
 | p::r,i+1,h=>by
   rw [List.flatMap_cons,show (i+1) * 4=p.cells.length+i * 4 by simp [SelD.cells];omega,← List.drop_drop,List.drop_left]
   exact sels_take r i (by simpa using h)
theorem SelsAt.get {w:World} {B:Nat} {l:List SelD} {a:Option Addr} (h:SelsAt w B l a) (hl:l≠[]):∃ b,a=some ⟨b,0,none⟩∧b<B∧∀ i (hi:i<l.length),CellsAt w b (0+i * 4) l[i].cells:=by
 rcases h with h | ⟨b,h1,h2,h3⟩
 ·exact absurd h hl
 ·exact ⟨b,h1,h2,fun i hi=>by rw [Nat.zero_add];exact cellsOfRange (h3.part (sels_take l i hi))⟩
def PlnAt (w:World) (B N:Nat) (d:PlnD) (l:List FuncD) (ps:List Value):Prop:=∃ sa sc ics ucs bcs fa fc,ps=plnRow d.mode (.slice sa d.steps.length sc) d.name ics ucs bcs (.slice fa l.length fc)∧d.steps.length≤48∧d.name.size≤N∧l.length≤N ∧
 SelsAt w B d.steps sa∧ExprD.At w B N d.init ics∧ExprD.At w B N d.upd ucs∧ExprD.At w B N d.body bcs∧FuncsAt w B N l fa
theorem PlnAt.below {w w':World} {B N:Nat} {d:PlnD} {l:List FuncD} {ps:List Value} (h:PlnAt w B N d l ps) (hb:Below B w w'):PlnAt w' B N d l ps:=by
 obtain ⟨sa,sc,ics,ucs,bcs,fa,fc,h0,h1,h2,h3,h4,h5,h6,h7,h8⟩:=h
 exact ⟨sa,sc,ics,ucs,bcs,fa,fc,h0,h1,h2,h3,h4.below hb,h5.below hb,h6.below hb,h7.below hb,FuncsAt.below hb _ h8⟩
theorem PlnAt.mono {w:World} {B B' N:Nat} {d:PlnD} {l:List FuncD} {ps:List Value} (h:PlnAt w B N d l ps) (hb:B≤B'):PlnAt w B' N d l ps:=by
 obtain ⟨sa,sc,ics,ucs,bcs,fa,fc,h0,h1,h2,h3,h4,h5,h6,h7,h8⟩:=h
 exact ⟨sa,sc,ics,ucs,bcs,fa,fc,h0,h1,h2,h3,h4.mono hb,ExprD.At.mono hb _ h5,ExprD.At.mono hb _ h6,ExprD.At.mono hb _ h7,FuncsAt.mono hb _ h8⟩
theorem PlnAt.len {w:World} {B N:Nat} {d:PlnD} {l:List FuncD} {ps:List Value} (h:PlnAt w B N d l ps):ps.length=55:=by
 obtain ⟨sa,sc,ics,ucs,bcs,fa,fc,h0,h1,h2,h3,h4,h5,h6,h7,h8⟩:=h
 rw [h0]
 exact plnRow_len _ _ _ _ h5.len h6.len h7.len
theorem PlnAt.one {w:World} {B N:Nat} {d:PlnD} {l:List FuncD} {ps:List Value} (h:PlnAt w B N d l ps):∀ u∈ps,u.oneCell'=true:=by
 obtain ⟨sa,sc,ics,ucs,bcs,fa,fc,h0,h1,h2,h3,h4,h5,h6,h7,h8⟩:=h
 intro u hu
 rw [h0] at hu
 simp only [plnRow,List.mem_cons,List.mem_append,List.mem_nil_iff,or_false] at hu
 rcases hu with rfl | rfl | rfl | hu | hu | hu | rfl
 ·rfl
 ·rfl
 ·rfl
 ·exact h5.one u hu
 ·exact h6.one u hu
 ·exact h7.one u hu
 ·rfl
def zeroP:PlnD:=⟨0,[],⟨#[]⟩,zeroE,zeroE,zeroE⟩
def zeroEL:List Value:=[.int .i64 0,.string ⟨#[]⟩,.int .i64 0,.bool false,.bool false,.string ⟨#[]⟩,.int .i64 0,.int .i64 0,.int .i64 0,.int .i64 0,.int .i64 0,.string ⟨#[]⟩,.slice none 0 0,.slice none 0 0,.slice none 0 0,.slice none 0 0,.slice none 0 0]
theorem zeroE_at (w:World) (B N:Nat):ExprD.At w B N zeroE zeroEL:=by
 refine ⟨_,none,none,0,0,rfl,?_,zeroV_at w B N,trivial,trivial⟩
 simp [ExprD.Own,ExprD.op,ExprD.name,ExprD.args,ExprD.funcs,I64,ByteArray.size]
def zeroPL:List Value:=plnRow 0 (.slice none 0 0) ⟨#[]⟩ zeroEL zeroEL zeroEL (.slice none 0 0)
theorem zeroP_at (w:World) (B N:Nat):PlnAt w B N zeroP [] zeroPL :=
 ⟨none,0,zeroEL,zeroEL,zeroEL,none,0,rfl,by decide,by show (0:Nat)≤N;omega,by simp,.inl rfl,zeroE_at w B N,zeroE_at w B N,zeroE_at w B N,trivial⟩
end Go.Proofs.YticpebgjbfanpaaGreatDoor

/- The result of Plan: its error and its plan; what an accepted program gives for it. The expression of the input, on both sides. -/
namespace Go.Proofs.YticpebgjbfanpaaGreatDoor
open Go.RowKit
def planErr (l:List FuncD) (x:ExprD):Int:=if prgE l x≠0 then prgE l x else if planS x=none then 22 else 0
def planRes (l:List FuncD) (x:ExprD):PlnD:=if prgE l x≠0 then zeroP else (planS x).getD zeroP
def planFs (l:List FuncD) (x:ExprD):List FuncD:=if prgE l x≠0 then [] else if planS x=none then [] else l
def PlanR (N:Nat) (l:List FuncD) (x:ExprD) (w:World) (e:Ending) (w':World):Prop:=∃ (ps:List Value) (k:Int),e=.returned (.tuple #[.agg ps.toArray,.int .i64 k])∧Hid (k=planErr l x)∧Hid (PlnAt w' w'.heap.size N (planRes l x) (planFs l x) ps)∧Below w.heap.size w w'
theorem PlanR.no {N:Nat} {l:List FuncD} {x:ExprD} {w w':World} (h:prgE l x=0) (hn:planS x=none) (hb:Below w.heap.size w w'):PlanR N l x w (.returned (.tuple #[.agg zeroPL.toArray,.int .i64 22])) w' :=
 ⟨zeroPL,_,rfl,Hd (by unfold planErr;rw [if_neg (fun g=>g h),if_pos hn]),Hd (by unfold planRes planFs;rw [if_neg (fun g=>g h),if_neg (fun g=>g h),if_pos hn,hn];exact zeroP_at _ _ _),hb⟩
theorem prg_main {l:List FuncD} {x:ExprD} (h:prgE l x=0):errE x=0:=by
 unfold prgE at h
 split at h
 ·simp at h
 split at h
 ·rename_i h2;exact absurd h h2
 split at h
 ·rename_i h2;exact absurd h h2
 ·rename_i h2;exact Classical.not_not.1 h2
theorem chF_all {l:List FuncD}:∀ (n k:Nat),n=l.length-k→chF l k=0→∀ i,k≤i→(hi:i<l.length)→fnC l i l[i]=0:=by
 intro n
 induction n with
 | zero =>
   intro k hn _ i hk hi
   omega
 | succ n ih =>
   intro k hn h i hk hi
   rw [chF_step (by omega)] at h
   split at h
   ·rename_i h2;exact absurd h h2
   rename_i h2
   rcases Nat.lt_or_ge k i with h3 | h3
   ·exact ih (k+1) (by omega) h i h3 hi
   ·obtain rfl:i=k:=by omega
    exact Classical.not_not.1 h2
theorem prg_funcs {l:List FuncD} {x:ExprD} (h:prgE l x=0):∀ f∈l,dpE 47 f.body:=by
 intro f hf
 obtain ⟨i,hi,rfl⟩:=List.getElem_of_mem hf
 unfold prgE at h
 split at h
 ·simp at h
 split at h
 ·rename_i h2;exact absurd h h2
 rename_i h2
 have h3:=chF_all _ 0 rfl (Classical.not_not.1 h2) i (by omega) hi
 unfold fnC at h3
 split at h3
 ·rename_i h4;exact absurd h3 h4
 split at h3
 ·rename_i h4;exact absurd h3 h4
 ·rename_i h4;exact (err_size (Classical.not_not.1 h4)).1
theorem dp_zero:dpE 0 zeroE:=⟨rfl,rfl⟩
end Go.Proofs.YticpebgjbfanpaaGreatDoor
