/- Rows of any type that may be written: one cell, a part, all of it. -/
import Derived.Test.YtiefeajappjnbaaGreatDoorGD
import Derived.Deep.RegionHeld3
import Derived.Laws.CopyRow
import Derived.Test.YtiefeajappjnbaaGreatDoorHE
namespace Go.Proofs.YtiefeajappjnbaaGreatDoor
open Go.RowKit
theorem b7 (w:World):Below w.heap.size w w.drew:=⟨rfl,rfl,rfl,Nat.le_refl _,fun _ _=>rfl⟩
theorem wpAnyH_takeU {P:Program} {ops:Array Oper} {Q:Exit→Act→World→Prop} {md:Region.Mode} {S:World→Prop} {i:Nat} {oi:Oper} {v:Value} {fuel:Nat} {listed:Array Bool} {l:List Value} {df:List Deferred} {w:World} (t:Nat) (hi:ops[i]?=some oi) (hd:oi.dst=some t)
 (hs:Region.noSelect ops=true) (hf:Region.free md ops listed i=true) (hr:(Region.ready md ops listed).contains i=true)
 (hQ:∀ c a w,Q (.panic c) (a.put oi.dst v) w→Q (.panic c) a w) (hy:YieldsIf P ops S oi v ⟨l.toArray,df⟩) (hS:S w)
 (h:wpAnyH P md ops Q S fuel (listed.setIfInBounds i true) ⟨(l.set t v).toArray,df⟩ w):wpAnyH P md ops Q S (fuel+1) listed ⟨l.toArray,df⟩ w:=by
 refine wpAnyH_take hi hs hf hr hQ hy hS ?_
 have e:Act.put (⟨l.toArray,df⟩:Act) oi.dst v=⟨(l.set t v).toArray,df⟩:=by
  rw [hd]
  simp [Act.put]
 rw [e]
 exact h
def aq (t:TypeId) (w:World) (b:Nat) (cs:List Value):Prop:=w.heap[b]?=some (.cells cs.toArray t (0,0))
theorem aq.cell {t:TypeId} {w:World} {b j:Nat} {cs:List Value} {v:Value} (h:aq t w b cs) (hv:cs[j]?=some v):w.cell? ⟨b,j,none⟩=some v:=by
 rw [cell_of_row w b j _ _ _ h];simpa using hv
theorem aq.frozen {t:TypeId} {w:World} {b:Nat} {cs:List Value} (h:aq t w b cs) (j:Nat):w.frozen? ⟨b,j,none⟩=false:=frozen_of_row w b j _ _ h
theorem aq.lt {t:TypeId} {w:World} {b:Nat} {cs:List Value} (h:aq t w b cs):b<w.heap.size:=(Array.getElem?_eq_some_iff.1 h).1
theorem aq.below {t:TypeId} {w w':World} {B b:Nat} {cs:List Value} (h:aq t w b cs) (hb:Below B w w') (hlt:b<B):aq t w' b cs:=(hb.block b hlt).trans h
theorem aq.then {t:TypeId} {w w':World} {b:Nat} {cs:List Value} (h:aq t w b cs) (hb:Below w.heap.size w w'):aq t w' b cs:=h.below hb h.lt
theorem aq.cells {t:TypeId} {w:World} {b:Nat} {cs:List Value} (h:aq t w b cs):aj w b 0 cs:=fun j hj=>by
 rw [Nat.zero_add,cell_of_row w b j _ _ _ h]
 simp
theorem aq.range {t:TypeId} {w:World} {b:Nat} {cs:List Value} (h:aq t w b cs):w.rangeAt b 0 cs:=h.cells.range
theorem aq.alloc {t:TypeId} {w:World} {b:Nat} {cs:List Value} (h:aq t w b cs) (o:Obj):aq t (w.alloc o) b cs:=(heap_alloc_old w o h.lt).trans h
theorem aq.new (w:World) (t:TypeId) (cs:List Value):aq t (w.alloc (.cells cs.toArray t)) w.heap.size cs:=heap_alloc_new w _
theorem aq.drew {t:TypeId} {w:World} {b:Nat} {cs:List Value} (h:aq t w b cs):aq t w.drew b cs:=h
theorem aq.set {t:TypeId} {w:World} {b:Nat} {cs:List Value} (h:aq t w b cs) (j:Nat) (v:Value):aq t (w.setCell ⟨b,j,none⟩ v) b (cs.set j v):=by
 unfold aq
 rw [heap_setCell_same w b j _ _ _ h,List.setIfInBounds_toArray]
theorem aq.setOther {t:TypeId} {w:World} {b b':Nat} {cs:List Value} (h:aq t w b cs) (hne:b≠b') (j:Nat) (v:Value):aq t (w.setCell ⟨b',j,none⟩ v) b cs:=by
 unfold aq
 rw [heap_setCell_other _ _ _ _ (by simpa using hne)]
 exact h
theorem aq.setRow {t:TypeId} {w:World} {b:Nat} {cs:List Value} (h:aq t w b cs) (new:List Value):aq t (w.setRow b new.toArray) b new:=setRow_heap w b _ _ t _ h
theorem aq.setRowOther {t:TypeId} {w:World} {b b':Nat} {cs:List Value} (h:aq t w b cs) (hne:b≠b') (new:Array Value):aq t (w.setRow b' new) b cs:=(setRow_other w b' b new hne).trans h
theorem bD {B b j:Nat} {w0 w:World} (h:Below B w0 w) (hb:B≤b) (v:Value):Below B w0 (w.setCell ⟨b,j,none⟩ v):=h.setCell hb _
theorem bn {P:Program} {o:Oper} {a:Act} {w:World} {K:Act→World→Prop} {Q:Exit→Act→World→Prop} (ty:TypeId) (x y:Operand) (ho:o.op=.store ty x y)
 (g q:Nat) (cells:List Value) (hx:a.eval x=.pointer (some ⟨g,q,none⟩)) (hy:a.eval y=.agg cells.toArray)
 (t:TypeId) (old new:List Value) (hg:aq t w g old) (hi:(P.info? ty).map (·.size)=some cells.length)
 (hn:new=old.take q++cells++old.drop (q+cells.length)) (hfit:q+cells.length≤old.length) (h1:∀ v∈cells,v.oneCell'=true)
 (h:K (a.put o.dst undef) (w.setRow g new.toArray)):o.wp P a w K Q:=by
 have hst:=run_storeCells_at P g q t cells 0 old.toArray w hg (by simpa using hfit) h1
 have hrun:(storeVar ty ⟨g,q,none⟩ (.agg cells.toArray)).run P w=.ok () (w.setRow g new.toArray):=by
  cases hq:P.info? ty with
  | none=>simp [hq] at hi
  | some i =>
    have hs:cells.length=i.size:=by simp [hq] at hi;omega
    simp [storeVar,sizeOf,typeInfo,hq,Value.cells,hs,hn]
    simpa [hs] using hst
 unfold Oper.wp execOp
 simp only [ho,hx,hy,Instr.storeAt,Instr.sureAddr,Sem.run_bind,Sem.run_pure,Result.andThen_ok,hrun]
 exact h
theorem aD {P:Program} {ops:Array Oper} {rest:List Oper} {o:Oper} {a:Act} {w:World} {Q:Exit→Act→World→Prop} (hgd:o.guard=none) (ty:TypeId) (x y:Operand) (ho:o.op=.store ty x y)
 (g q:Nat) (cells:List Value) (hx:a.eval x=.pointer (some ⟨g,q,none⟩)) (hy:a.eval y=.agg cells.toArray)
 (t:TypeId) (old new:List Value) (hg:aq t w g old) (hi:(P.info? ty).map (·.size)=some cells.length)
 (hn:new=old.take q++cells++old.drop (q+cells.length)) (hfit:q+cells.length≤old.length) (h1:∀ v∈cells,v.oneCell'=true)
 (h:wpList P ops Q rest (a.put o.dst undef) (w.setRow g new.toArray)):wpList P ops Q (o::rest) a w :=
 wpList_plain hgd fun _ hK=>bn ty x y ho g q cells hx hy t old new hg hi hn hfit h1 (hK _ _ h)
end Go.Proofs.YtiefeajappjnbaaGreatDoor

/- decimal.ToInt and datakitref02.ToInt: both compute the same of a valid decimal. -/
namespace Go.Proofs.YtiefeajappjnbaaGreatDoor
open Go.RowKit
def DQ:List UInt8:=[57,50,50,51,51,55,50,48,51,54,56,53,52,55,55,53,56,48,56]
def fA (d:dL):ByteArray:=d.digits++fM d.exp.toNat
def toI (d:dL):Int×Int :=
 if 19<d.digits.size+d.exp then (0,2)
 else if d.neg=true∧(fA d).toList=DQ then (-9223372036854775808,0)
 else (if d.neg then -(gV (fA d)).1 else (gV (fA d)).1,(gV (fA d)).2)
theorem nX (s:ByteArray):(∃ n:Nat,gV s=((n:Int),0)∧n≤9223372036854775807∧n=dv s.data.toList)∨(gV s=(0,2)∧9223372036854775807<dv s.data.toList):=by
 unfold gV
 by_cases h:dv s.data.toList≤9223372036854775807
 ·exact .inl ⟨_,by rw [if_pos h],h,rfl⟩
 ·exact .inr ⟨by rw [if_neg h],by omega⟩
theorem fF (n:Nat):(fM n).size=n:=by unfold fM;rw [strOfNums_size,List.length_replicate]
theorem j9 (a b:ByteArray) (i:Nat):aI (a++b) i=if i<a.size then aI a i else aI b (i-a.size):=by
 unfold aI
 by_cases h:i<a.size
 ·rw [if_pos h,dif_pos h,dif_pos (by rw [ByteArray.size_append];omega),ByteArray.getElem_append_left h]
 ·rw [if_neg h]
  by_cases h2:i-a.size<b.size
  ·rw [dif_pos h2,dif_pos (by rw [ByteArray.size_append];omega),ByteArray.getElem_append_right (by omega)]
  ·rw [dif_neg h2,dif_neg (by rw [ByteArray.size_append];omega)]
theorem qG (n i:Nat) (h:i<n):aI (fM n) i=48:=by
 rw [← bd (by rw [fF];exact h)]
 have:(fM n)[i]'(by rw [fF];exact h)=48:=by
  unfold fM strOfNums
  show (List.map _ _).toArray[i]'_=_
  simp
 rw [this]
 rfl
theorem nJ {d:dL} (hv:gP d) (h0:0≤d.exp) (h19:d.digits.size+d.exp≤19):gQ (fA d)∧(fA d).size≤19∧((fA d).size=0∨aI (fA d) 0≠48):=by
 have hsz:(fA d).size=d.digits.size+d.exp.toNat:=by unfold fA;rw [ByteArray.size_append,fF]
 refine ⟨fun i hi=>?_,by omega,?_⟩
 ·unfold fA
  rw [j9]
  by_cases h:i<d.digits.size
  ·rw [if_pos h]
   rcases hv with ⟨h1,_,_⟩ | ⟨_,_,hdg,_⟩
   ·omega
   ·exact hdg i h
  ·rw [if_neg h,qG _ _ (by omega)]
   omega
 ·rcases hv with ⟨h1,_,he⟩ | ⟨hp,_,_,hf,_⟩
  ·exact .inl (by rw [hsz,h1,he];rfl)
  ·refine .inr ?_
   unfold fA
   rw [j9,if_pos hp]
   exact hf
end Go.Proofs.YtiefeajappjnbaaGreatDoor

/- What an accepted expression is, node by node: its form, its literal, its absent arguments; and what of it is a selection or constant. No program here. -/
namespace Go.Proofs.YtiefeajappjnbaaGreatDoor
open Go.RowKit
def wf1 (e:ag):Prop:=bh e=true∧(e.op=3→dJ e.val=0)
def wfE:Nat→ag→Prop
 | 0,e=>wf1 e∧e.args=[]∧e.funcs=[]
 | m+1,e=>wf1 e∧(∀ a∈e.args,a.op=30∨wfE m a)∧∀ f∈e.funcs,f.body.op=30∨wfE m f.body
theorem gM {m:Nat} {e:ag} (h:wfE m e):wf1 e:=by
 cases m with
 | zero=>exact h.1
 | succ m=>exact h.1
theorem zL (idB:ByteArray→Bool) (rgB:ag→Bool):∀ (m:Nat) (x:ag) (s y:Int),aV idB rgB (m+1) x s=(y,0)→wfE m x:=by
 intro m
 induction m with
 | zero =>
   intro x s y h
   obtain ⟨ha,hf⟩:=(eX idB rgB 0 x s y h).1
   refine ⟨?_,ha,hf⟩
   rw [aV] at h
   split at h
   ·simp at h
   split at h
   ·simp at h
   split at h
   ·rename_i hc;simp at h;exact absurd h.2 hc.2
   rename_i hfb hc
   exact ⟨by simpa using hfb,fun h3=>by
    rcases Classical.em (dJ x.val=0) with h4 | h4
    ·exact h4
    ·exact absurd ⟨h3,h4⟩ hc⟩
 | succ m ih =>
   intro x s y h'
   rw [aV] at h'
   split at h'
   ·simp at h'
   split at h'
   ·simp at h'
   split at h'
   ·rename_i hc;simp at h';exact absurd h'.2 hc.2
   split at h'
   ·simp at h'
   split at h'
   ·simp at h'
   split at h'
   ·rename_i hh;rw [h'] at hh;exact absurd rfl hh
   ·rename_i hfb hc _ _ h2
    have hfb':bh x=true:=by simpa using hfb
    have hq:wf1 x:=⟨hfb',fun h3=>by
     rcases Classical.em (dJ x.val=0) with h4 | h4
     ·exact h4
     ·exact absurd ⟨h3,h4⟩ hc⟩
    have h3:=Classical.not_not.1 h2
    obtain ⟨p,q,hpq⟩:∃ p q,cF idB (aV idB rgB (m+1)) [] x.funcs (s+1)=(p,q):=⟨_,_,rfl⟩
    rw [hpq] at h3 h'
    obtain rfl:q=0:=h3
    have ih2:∀ x s y,aV idB rgB (m+1) x s=(y,0)→(x.op=30∨wfE m x)∧y=s+ndE m x:=fun x s y h=>⟨.inr (ih x s y h),(eX idB rgB m x s y h).2⟩
    obtain ⟨f1,_⟩:=fe idB (aV idB rgB (m+1)) (fun u=>u.op=30∨wfE m u) (ndE m) ih2 x.funcs [] (s+1) p hpq
    obtain ⟨k1,_⟩:=eY (m+1) (aV idB rgB (m+1)) (fun u=>u.op=30∨wfE m u) (ndE m) ih2 x.args _ y (fun u hu ho _=>by
     obtain ⟨a1,a2⟩:=jW hfb' hu ho
     exact ⟨.inl ho,jO m a1 a2⟩) h'
    exact ⟨hq,k1,f1⟩
theorem xT {x:ag} (h:eH x=0):wfE 47 x:=zL aC rgB 47 x 0 (lkE 48 x 0).1 (Prod.ext rfl h)
theorem eE {e:ag} (h:wf1 e) {n:Nat} (hn:bT e.op=n):e.args.length=n:=by
 obtain ⟨_,_,h3,_⟩:=of_decide_eq_true h.1
 have:=h3 (by omega)
 omega
theorem Bi {e:ag} (h:wf1 e) {k:Nat} (hk:k<e.args.length) (ho:e.args[k].op=30):lS e.op≤k∧dX e.args[k]=true:=by
 obtain ⟨_,_,_,_,_,ha,_⟩:=of_decide_eq_true h.1
 unfold eN at ha
 rw [List.all_eq_true] at ha
 have h1:=of_decide_eq_true (ha k (by simpa using hk))
 simp only [List.getD_eq_getElem?_getD,List.getElem?_eq_getElem hk,Option.getD_some] at h1
 exact h1 ho
theorem vG {m:Nat} {e:ag} (h:wfE m e) {k:Nat} (hk:k<e.args.length):e.args[k].op=30∨∃ m',m=m'+1∧wfE m' e.args[k]:=by
 cases m with
 | zero =>
   obtain ⟨_,ha,_⟩:=h
   rw [ha] at hk
   simp at hk
 | succ m =>
   rcases h.2.1 _ (List.getElem_mem hk) with h1 | h1
   ·exact .inl h1
   ·exact .inr ⟨m,rfl,h1⟩
theorem Bh {e:ag} (h:wf1 e):gP e.val.num∧e.val.num.neg=false∧(e.op≠3→e.val.kind=0∧e.val.num.exp=0):=by
 obtain ⟨_,_,_,_,_,_,_,_,hz,_,_,hl,_⟩:=of_decide_eq_true h.1
 by_cases h3:e.op=3
 ·have hc:=h.2 h3
  have ho:du e.val=0:=by
   rcases Classical.em (du e.val=0) with h | h
   ·exact h
   ·exfalso
    have h1:(bf 48 e.val 0).2=0:=hc
    rw [show bf 48 e.val 0=(if 65536≤(0:Int) then (0,10) else if du e.val=0 then cX (bf 47) (ca e.val) (0+1) else (0,du e.val)) from rfl,if_neg (by decide),if_neg h] at h1
    exact h h1
  unfold du at ho
  split at ho
  ·simp at ho
  rename_i h1
  split at ho
  ·simp at ho
  rename_i h2
  have hd:cN e.val.num=true:=by
   cases hq:cN e.val.num
   ·exact absurd (.inl hq) h2
   ·rfl
  refine ⟨(eW _).1 hd,?_,fun h=>absurd h3 h⟩
  have hk:=of_decide_eq_true (hl h3)
  have hw:=of_decide_eq_true (show fO e.val=true by simpa using h1)
  by_cases h2:e.val.kind=2
  ·rcases hk with hk | hk | ⟨_,hk⟩ | hk
   ·omega
   ·omega
   ·exact hk
   ·omega
  ·have:=hw.2.2.2.1 h2
   simp [eb] at this
   exact this.1
 ·have hz':=of_decide_eq_true (hz.resolve_left h3)
  obtain ⟨k0,_,k1,_⟩:=hz'
  refine ⟨(eW _).1 (fS k1),?_,fun _=>⟨k0,?_⟩⟩
  ·simp [eb] at k1
   exact k1.1
  ·simp [eb] at k1
   exact k1.2.2
end Go.Proofs.YtiefeajappjnbaaGreatDoor

/- The plan of a program, as the document has it, on trees: what is constant, what is a selection. No program here. -/
namespace Go.Proofs.YtiefeajappjnbaaGreatDoor
open Go.RowKit
theorem Cq (a b:List UInt8):dv (a++b)=dv a * 10 ^ b.length+dv b:=by
 show (a++b).foldl _ 0=_
 rw [List.foldl_append,jY]
 rfl
theorem xZ:∀ m:Nat,dv (List.replicate m 48)=0
 | 0=>rfl
 | m+1=>by rw [List.replicate_succ,oI,xZ m];simp
theorem oT (m:Nat):(fM m).data.toList=List.replicate m 48:=by
 unfold fM strOfNums
 simp
theorem Al (d:dL):dv (fA d).data.toList=dv d.digits.data.toList * 10 ^ d.exp.toNat:=by
 unfold fA
 rw [show (d.digits++fM d.exp.toNat).data.toList=d.digits.data.toList++(fM d.exp.toNat).data.toList by simp [ByteArray.data_append],Cq,oT,xZ,List.length_replicate,Nat.add_zero]
theorem nI (d:dL):(fA d).size=d.digits.size+d.exp.toNat:=by unfold fA;rw [ByteArray.size_append,fF]
theorem sm {d:dL} (hv:gP d) (hn:d.neg=false) (he:0≤d.exp) (h:d.digits.size+d.exp≤18):toI d=(((dv d.digits.data.toList * 10 ^ d.exp.toNat:Nat):Int),0):=by
 obtain ⟨g1,g2,_⟩:=nJ hv he (by omega)
 unfold toI
 rw [if_neg (by omega),hn,tY g1 (.inl (by rw [nI];omega)),Al]
 simp
theorem Co {l:List UInt8} (h:5<l.length) (h0:49≤(l[0]'(by omega)).toNat):100000≤dv l:=by
 cases l with
 | nil=>simp at h
 | cons c r =>
   rw [oI]
   have h1:49≤c.toNat:=h0
   have h2:5≤r.length:=by simp at h;omega
   have h3:10 ^ 5≤10 ^ r.length:=Nat.pow_le_pow_right (by omega) h2
   have h4:1 * 10 ^ r.length≤(c.toNat-48) * 10 ^ r.length:=Nat.mul_le_mul_right _ (by omega)
   omega
theorem y9 {d:dL} (hv:gP d) (hn:d.neg=false) (he:0≤d.exp) (h:5<d.digits.size+d.exp):(toI d).2≠0∨65536<(toI d).1:=by
 by_cases h19:19<d.digits.size+d.exp
 ·left
  unfold toI
  rw [if_pos h19]
  decide
 ·obtain ⟨g1,g2,g3⟩:=nJ hv he (by omega)
  have hsz:=nI d
  have hp:5<(fA d).data.toList.length:=by
   show 5<(fA d).size
   omega
  have h0:49≤((fA d).data.toList[0]'(by omega)).toNat:=by
   have hz:0<(fA d).size:=by omega
   have e:((fA d).data.toList[0]'(by omega))=(fA d)[0]'hz:=by simp;rfl
   rw [e]
   have q1:=(g1 0 hz).1
   have q2:=g3.resolve_left (by omega)
   rw [← bd hz] at q1 q2
   omega
  have hl:=Co hp h0
  unfold toI
  rw [if_neg h19,hn]
  rcases nX (fA d) with ⟨n,h1,h2,h3⟩ | ⟨h1,_⟩
  ·rw [h1]
   right
   simp
   omega
  ·rw [h1]
   left
   simp
structure aL where
 each:Bool
 byIdx:Bool
 key:ByteArray
 index:Int
def aL.cells (s:aL):List Value:=[.bool s.each,.bool s.byIdx,.string s.key,.int .i64 s.index]
def ej (x:ag) (i:Nat):ag:=x.args.getD i default
theorem bU {x:ag} {i:Nat} (h:i<x.args.length):ej x i=x.args[i]:=by unfold ej;rw [List.getD_eq_getElem?_getD,List.getElem?_eq_getElem h];rfl
def eq (x:ag):Option Int:=if x.op=3∧x.val.kind=2∧0≤x.val.num.exp∧(toI x.val.num).2=0∧(toI x.val.num).1≤65536 then some (toI x.val.num).1 else none
def iZ (x:ag):Option aL :=
 if x.op=5 then some ⟨false,false,x.name,0⟩ else if x.op=8 then some ⟨true,false,⟨#[]⟩,0⟩ else (eq (ej x 1)).map fun n=>⟨false,true,⟨#[]⟩,n⟩
def dO (g:ag→Option (List aL)) (x:ag):Option (List aL) :=
 if x.op=1 then some [] else if x.op=5∨x.op=6∨x.op=8 then (g (ej x 0)).bind fun l=>(iZ x).map fun s=>l++[s] else none
def dZ:Nat→ag→Option (List aL)
 | 0=>dO fun _=>none
 | m+1=>dO (dZ m)
theorem pi {x:ag} (h:¬ (x.op=3∧x.val.kind=2)):eq x=none:=by unfold eq;rw [if_neg (fun g=>h ⟨g.1,g.2.1⟩)]
theorem ue {x:ag} (h:x.val.num.exp<0):eq x=none:=by unfold eq;rw [if_neg (fun g=>by omega)]
theorem vV {x:ag} (hv:gP x.val.num) (hn:x.val.num.neg=false) (h:5<x.val.num.digits.size+x.val.num.exp):eq x=none:=by
 unfold eq
 rw [if_neg]
 rintro ⟨_,_,he,h1,h2⟩
 rcases y9 hv hn he h with h | h
 ·exact h h1
 ·omega
theorem vU {x:ag} (hv:gP x.val.num) (hn:x.val.num.neg=false) (h3:x.op=3) (hk:x.val.kind=2) (he:0≤x.val.num.exp) (h:x.val.num.digits.size+x.val.num.exp≤5) :
 eq x=if dv x.val.num.digits.data.toList * 10 ^ x.val.num.exp.toNat≤65536 then some ((dv x.val.num.digits.data.toList * 10 ^ x.val.num.exp.toNat:Nat):Int) else none:=by
 unfold eq
 rw [sm hv hn he (by omega)]
 split
 ·rename_i g
  rw [if_pos]
  have:=g.2.2.2.2
  simp only at this
  omega
 ·rename_i g
  rw [if_neg]
  intro hq
  exact g ⟨h3,hk,he,rfl,by simp only;omega⟩
def cW (g:ag→Bool) (x:ag):Bool :=
 if x.op=3 then true else if x.op=24 then decide ((ej x 0).op=30) || g (ej x 0) else if x.op=11∨x.op=25 then x.args.all g else false
def kD:Nat→ag→Bool
 | 0=>cW fun _=>false
 | m+1=>cW (kD m)
structure br where
 mode:Int
 steps:List aL
 name:ByteArray
 init:ag
 upd:ag
 body:ag
def bk:ar:=.mk 0 false ⟨false,⟨#[]⟩,0⟩ ⟨0,0,0,0⟩ ⟨#[]⟩ [] [] []
def fG:ag:=.mk 0 ⟨#[]⟩ bk [] []
def fu:ag:=.mk 1 ⟨#[]⟩ bk [] []
def cQ (o:Option (List aL)):Option (List aL):=o.bind fun l=>if 1≤l.length∧l.length≤48 then some l else none
def dR (x:ag):ag:=if x.op=9 then ej x 0 else x
def gg (x:ag):ag:=if x.op=9 then ej x 1 else fu
def fy (m:ag):Bool:=decide (m.op=19∨(m.op=20∧(ej m 3).op=30))
def cy (x:ag):Option br :=
 if fy (dR x)=true then
  if kD 47 (ej (dR x) 1)=false then none
  else (cQ (dZ 47 (ej (dR x) 0))).map fun l=>⟨if (dR x).op=20 then 3 else 2,l,(dR x).name,ej (dR x) 1,ej (dR x) 2,gg x⟩
 else (cQ (dZ 47 (dR x))).map fun l=>⟨1,l,⟨#[]⟩,fG,fG,gg x⟩
end Go.Proofs.YtiefeajappjnbaaGreatDoor

/- A plan in memory: its cells, what lies behind them; two readings of a selection are the same. -/
namespace Go.Proofs.YtiefeajappjnbaaGreatDoor
open Go.RowKit
def ao (m:Int) (sv:Value) (nm:ByteArray) (ics ucs bcs:List Value) (fv:Value):List Value:=.int .i64 m::sv::.string nm::(ics++(ucs++(bcs++[fv])))
theorem bl (m:Int) (sv:Value) (nm:ByteArray) {ics ucs bcs:List Value} (fv:Value) (h1:ics.length=17) (h2:ucs.length=17) (h3:bcs.length=17):(ao m sv nm ics ucs bcs fv).length=55:=by
 simp [ao,h1,h2,h3]
theorem pE (m:Int) (sv:Value) (nm:ByteArray) (ics ucs bcs:List Value) (fv:Value):(ao m sv nm ics ucs bcs fv)[0]?=some (.int .i64 m):=rfl
theorem jK (m:Int) (sv:Value) (nm:ByteArray) (ics ucs bcs:List Value) (fv:Value):(ao m sv nm ics ucs bcs fv)[1]?=some sv:=rfl
theorem pD (m:Int) (sv:Value) (nm:ByteArray) (ics ucs bcs:List Value) (fv:Value):(ao m sv nm ics ucs bcs fv)[2]?=some (.string nm):=rfl
theorem ko (m:Int) (sv:Value) (nm:ByteArray) {ics ucs bcs:List Value} (fv:Value) (h1:ics.length=17) (h2:ucs.length=17) (h3:bcs.length=17):(ao m sv nm ics ucs bcs fv)[54]?=some fv:=by
 show (ics++(ucs++(bcs++[fv])))[51]?=_
 rw [List.getElem?_append_right (by omega),List.getElem?_append_right (by omega),List.getElem?_append_right (by omega),h1,h2,h3]
 rfl
theorem g9 (m:Int) (sv:Value) (nm:ByteArray) {ics ucs bcs:List Value} (fv:Value) (h1:ics.length=17):((ao m sv nm ics ucs bcs fv).drop 3).take 17=ics:=by
 show (ics++(ucs++(bcs++[fv]))).take 17=_
 rw [← h1,List.take_left]
theorem jh (m:Int) (sv:Value) (nm:ByteArray) {ics ucs bcs:List Value} (fv:Value) (h1:ics.length=17) (h2:ucs.length=17):((ao m sv nm ics ucs bcs fv).drop 20).take 17=ucs:=by
 show ((ics++(ucs++(bcs++[fv]))).drop 17).take 17=_
 rw [← h1,List.drop_left,h1,← h2,List.take_left]
theorem hH (m:Int) (sv:Value) (nm:ByteArray) {ics ucs bcs:List Value} (fv:Value) (h1:ics.length=17) (h2:ucs.length=17) (h3:bcs.length=17):((ao m sv nm ics ucs bcs fv).drop 37).take 17=bcs:=by
 show ((ics++(ucs++(bcs++[fv]))).drop 34).take 17=_
 rw [show (34:Nat)=ics.length+ucs.length by omega,← List.drop_drop,List.drop_left,List.drop_left,← h3,List.take_left]
theorem g8 (m:Int) (sv:Value) (nm:ByteArray) {ics ucs bcs ns:List Value} (fv:Value) (h1:ics.length=17) (hn:ns.length=17) :
 ao m sv nm ns ucs bcs fv=(ao m sv nm ics ucs bcs fv).take 3++ns++(ao m sv nm ics ucs bcs fv).drop (3+ns.length):=by
 rw [hn]
 show _=[Value.int .i64 m,sv,.string nm]++ns++(ics++(ucs++(bcs++[fv]))).drop 17
 rw [← h1,List.drop_left]
 simp [ao]
theorem i6 (m:Int) (sv:Value) (nm:ByteArray) {ics ucs bcs ns:List Value} (fv:Value) (h1:ics.length=17) (h2:ucs.length=17) (hn:ns.length=17) :
 ao m sv nm ics ns bcs fv=(ao m sv nm ics ucs bcs fv).take 20++ns++(ao m sv nm ics ucs bcs fv).drop (20+ns.length):=by
 rw [hn]
 show _=(Value.int .i64 m::sv::.string nm::(ics++(ucs++(bcs++[fv]))).take 17)++ns++(ics++(ucs++(bcs++[fv]))).drop 34
 rw [show (34:Nat)=ics.length+ucs.length by omega,← List.drop_drop,List.drop_left,List.drop_left,← h1,List.take_left]
 simp [ao]
def ek (w:World) (B:Nat) (l:List aL) (a:Option Addr):Prop:=l=[]∨∃ b o,a=some ⟨b,o,none⟩∧b<B∧aj w b o (l.flatMap aL.cells)
theorem ek.below {w w':World} {B:Nat} {l:List aL} {a:Option Addr} (h:ek w B l a) (hb:Below B w w'):ek w' B l a:=by
 rcases h with h | ⟨b,o,h1,h2,h3⟩
 ·exact .inl h
 ·exact .inr ⟨b,o,h1,h2,h3.below hb h2⟩
theorem ek.mono {w:World} {B B':Nat} {l:List aL} {a:Option Addr} (h:ek w B l a) (hb:B≤B'):ek w B' l a:=by
 rcases h with h | ⟨b,o,h1,h2,h3⟩
 ·exact .inl h
 ·exact .inr ⟨b,o,h1,Nat.lt_of_lt_of_le h2 hb,h3⟩
theorem lK (l:List aL):(l.flatMap aL.cells).length=l.length * 4:=by
 induction l with
 | nil=>rfl
 | cons a r ih=>rw [List.flatMap_cons,List.length_append,ih,List.length_cons];show 4+_=_;omega
theorem kl:∀ (l:List aL) (i:Nat) (hi:i<l.length),((l.flatMap aL.cells).drop (i * 4)).take 4=l[i].cells
 | p::r,0,_=>by simp [aL.cells]
 | p::r,i+1,h=>by
   rw [List.flatMap_cons,show (i+1) * 4=p.cells.length+i * 4 by simp [aL.cells];omega,← List.drop_drop,List.drop_left]
   exact kl r i (by simpa using h)
theorem ek.get {w:World} {B:Nat} {l:List aL} {a:Option Addr} (h:ek w B l a) (hl:l≠[]):∃ b o,a=some ⟨b,o,none⟩∧b<B∧∀ i (hi:i<l.length),aj w b (o+i * 4) l[i].cells:=by
 rcases h with h | ⟨b,o,h1,h2,h3⟩
 ·exact absurd h hl
 ·refine ⟨b,o,h1,h2,fun i hi j hj=>?_⟩
  have hj4:j<4:=hj
  have h5:i * 4+j<(l.flatMap aL.cells).length:=by rw [lK];omega
  have h6:=h3 (i * 4+j) h5
  rw [Nat.add_assoc,h6,← kl l i hi,List.getElem?_take,if_pos hj4,List.getElem?_drop]
theorem jH {a:World} {base L:Nat} {t:TypeId} {s:Value} {l:List aL} (h:a.ownsRow base t 4 s l.length (l.flatMap aL.cells)) (hL:L≤base) :
 ∃ ad cp,s=.slice ad l.length cp∧bF L none a (fun c=>ek c c.heap.size l ad):=by
 obtain ⟨ad,cp,rfl⟩:=di h
 refine ⟨ad,cp,rfl,fun c hk=>?_⟩
 have h2:=dt h hk hL
 rcases h2.2 with ⟨e,e2⟩ | ⟨g,cap,cur,e,hg,hh,hc,hm,hcs,htake⟩
 ·exact .inl (List.length_eq_zero_iff.1 e2)
 ·simp only [Value.slice.injEq] at e
  obtain ⟨rfl,_,_⟩:=e
  refine .inr ⟨g,0,rfl,(Array.getElem?_eq_some_iff.1 hh).1,fun j hj=>?_⟩
  have hj':j<l.length * 4:=by rw [← lK];exact hj
  have e:c.cell? ⟨g,0+j,none⟩=cur[0+j]?:=by simp [World.cell?,hh]
  rw [e,← htake,List.getElem?_take,if_pos hj',Nat.zero_add]
  simp
def dc (w:World) (B N:Nat) (d:br) (l:List al) (ps:List Value):Prop:=∃ sa sc ics ucs bcs fa fc,ps=ao d.mode (.slice sa d.steps.length sc) d.name ics ucs bcs (.slice fa l.length fc)∧d.steps.length≤48∧d.name.size≤N∧l.length≤N ∧
 ek w B d.steps sa∧ag.At w B N d.init ics∧ag.At w B N d.upd ucs∧ag.At w B N d.body bcs∧av w B N l fa
theorem dc.below {w w':World} {B N:Nat} {d:br} {l:List al} {ps:List Value} (h:dc w B N d l ps) (hb:Below B w w'):dc w' B N d l ps:=by
 obtain ⟨sa,sc,ics,ucs,bcs,fa,fc,h0,h1,h2,h3,h4,h5,h6,h7,h8⟩:=h
 exact ⟨sa,sc,ics,ucs,bcs,fa,fc,h0,h1,h2,h3,h4.below hb,h5.below hb,h6.below hb,h7.below hb,av.below hb _ h8⟩
theorem dc.mono {w:World} {B B' N:Nat} {d:br} {l:List al} {ps:List Value} (h:dc w B N d l ps) (hb:B≤B'):dc w B' N d l ps:=by
 obtain ⟨sa,sc,ics,ucs,bcs,fa,fc,h0,h1,h2,h3,h4,h5,h6,h7,h8⟩:=h
 exact ⟨sa,sc,ics,ucs,bcs,fa,fc,h0,h1,h2,h3,h4.mono hb,ag.At.mono hb _ h5,ag.At.mono hb _ h6,ag.At.mono hb _ h7,av.mono hb _ h8⟩
theorem dc.len {w:World} {B N:Nat} {d:br} {l:List al} {ps:List Value} (h:dc w B N d l ps):ps.length=55:=by
 obtain ⟨sa,sc,ics,ucs,bcs,fa,fc,h0,h1,h2,h3,h4,h5,h6,h7,h8⟩:=h
 rw [h0]
 exact bl _ _ _ _ h5.len h6.len h7.len
theorem cB {m:Int} {sv:Value} {nm:ByteArray} {ics ucs bcs:List Value} {fv:Value} (hs:sv.oneCell'=true) (h1:∀ u∈ics,u.oneCell'=true) (h2:∀ u∈ucs,u.oneCell'=true) (h3:∀ u∈bcs,u.oneCell'=true) (hf:fv.oneCell'=true):∀ u∈ao m sv nm ics ucs bcs fv,u.oneCell'=true:=by
 intro u hu
 simp only [ao,List.mem_cons,List.mem_append,List.mem_nil_iff,or_false] at hu
 rcases hu with rfl | rfl | rfl | hu | hu | hu | rfl
 ·rfl
 ·exact hs
 ·rfl
 ·exact h1 u hu
 ·exact h2 u hu
 ·exact h3 u hu
 ·exact hf
theorem dc.one {w:World} {B N:Nat} {d:br} {l:List al} {ps:List Value} (h:dc w B N d l ps):∀ u∈ps,u.oneCell'=true:=by
 obtain ⟨sa,sc,ics,ucs,bcs,fa,fc,h0,h1,h2,h3,h4,h5,h6,h7,h8⟩:=h
 intro u hu
 rw [h0] at hu
 simp only [ao,List.mem_cons,List.mem_append,List.mem_nil_iff,or_false] at hu
 rcases hu with rfl | rfl | rfl | hu | hu | hu | rfl
 ·rfl
 ·rfl
 ·rfl
 ·exact h5.one u hu
 ·exact h6.one u hu
 ·exact h7.one u hu
 ·rfl
theorem cP:(Tryz.prog.info? 94).map (·.size)=some 4:=by kernel_rfl
theorem zj:(Tryz.prog.info? 92).map (·.size)=some 3:=by kernel_rfl
theorem aO:(Tryz.prog.info? 58).map (·.size)=some 55:=by kernel_rfl
def vD:br:=⟨0,[],⟨#[]⟩,fG,fG,fG⟩
def ai:List Value:=[.int .i64 0,.string ⟨#[]⟩,.int .i64 0,.bool false,.bool false,.string ⟨#[]⟩,.int .i64 0,.int .i64 0,.int .i64 0,.int .i64 0,.int .i64 0,.string ⟨#[]⟩,.slice none 0 0,.slice none 0 0,.slice none 0 0,.slice none 0 0,.slice none 0 0]
theorem bu (w:World) (B N:Nat):ag.At w B N fG ai:=by
 refine ⟨_,none,none,0,0,rfl,?_,gR w B N,trivial,trivial,Nat.le_refl _⟩
 simp [ag.Own,ag.op,ag.name,ag.args,ag.funcs,I64,ByteArray.size]
theorem kv (w:World) (B N:Nat):ag.At w B N fu (ai.set 0 (.int .i64 1)):=by
 refine ⟨_,none,none,0,0,rfl,?_,gR w B N,trivial,trivial,Nat.le_refl _⟩
 simp [ag.Own,ag.op,ag.name,ag.args,ag.funcs,I64,ByteArray.size]
def aB:List Value:=ao 0 (.slice none 0 0) ⟨#[]⟩ ai ai ai (.slice none 0 0)
theorem dM (w:World) (B N:Nat):dc w B N vD [] aB :=
 ⟨none,0,ai,ai,ai,none,0,rfl,by decide,by show (0:Nat)≤N;omega,by simp,.inl rfl,bu w B N,bu w B N,bu w B N,trivial⟩
theorem Dm (c:Bool) (k:ByteArray) (n:Int) (w:World):(Op.equalIn 9999 92 (.agg #[.bool c,.string k,.int .i64 n]) (.agg #[.bool c,.string k,.int .i64 n])).run Tryz.prog w=.ok true w:=by
 have u3:=Tryz.underlying3
 have a3:=Tryz.isAgg3
 have z3:=Tryz.sizeOf3
 have u4:=Tryz.underlying4
 have a4:=Tryz.isAgg4
 have z4:=Tryz.sizeOf4
 have u9:=Tryz.underlying9
 have a9:=Tryz.isAgg9
 have z9:=Tryz.sizeOf9
 have hS:Tryz.prog.underlying 92=some (.struct (Tryz.prog.fieldsOf 92)):=by kernel_rfl
 have hp:Tryz.prog.stoodInHeld 92=false:=by kernel_rfl
 rw [show (9999:Nat)=9998+1 from rfl,run_equalIn_agg w 9998 92 _ _ hS hp]
 simp only [Program.fieldsOf,Tryz.underlying92]
 go_simp
theorem Dn (s:aL) (w:World):(Op.equalIn 10000 94 (.agg #[.bool s.each,.bool s.byIdx,.string s.key,.int .i64 s.index]) (.agg #[.bool s.each,.bool s.byIdx,.string s.key,.int .i64 s.index])).run Tryz.prog w=.ok true w:=by
 have u4:=Tryz.underlying4
 have a4:=Tryz.isAgg4
 have z4:=Tryz.sizeOf4
 have a5:=Tryz.isAgg92
 have z5:=Tryz.sizeOf92
 have hS:Tryz.prog.underlying 94=some (.struct (Tryz.prog.fieldsOf 94)):=by kernel_rfl
 have hp:Tryz.prog.stoodInHeld 94=false:=by kernel_rfl
 have hN:=Dm s.byIdx s.key s.index w
 rw [show (10000:Nat)=9999+1 from rfl,run_equalIn_agg w 9999 94 _ _ hS hp]
 simp only [Program.fieldsOf,Tryz.underlying94]
 go_simp
theorem xz:Program.eqGuardType Tryz.prog Tryz.prog.depth 94=false:=by kernel_rfl
end Go.Proofs.YtiefeajappjnbaaGreatDoor
