/- What the checks of values compute: plain functions of the value. -/
import Derived.Test.YtniljgkkcnekgaaGreatDoorProg
import Derived.Test.YtniljgkkcnekgaaGreatDoorGA
import Derived.Test.YtniljgkkcnekgaaGreatDoorGB
import Derived.Test.YtniljgkkcnekgaaGreatDoorGU
import Derived.Maps.OwnOps
import Derived.Maps.OwnSet
import Derived.Maps.Views
namespace Go.Proofs.YtniljgkkcnekgaaGreatDoor
open Go.RowKit
def digB (s:ByteArray):Bool:=s.data.toList.all (fun c=>decide (48≤c.toNat)&&decide (c.toNat≤57))
theorem digB_iff (s:ByteArray):digB s=true↔DigS s:=by
 unfold digB
 rw [List.all_eq_true]
 constructor
 ·intro h i hi
  have h1:=h s.data.toList[i] (List.getElem_mem (by simpa using hi))
  simp only [Bool.and_eq_true,decide_eq_true_eq] at h1
  rw [← byteI_eq hi]
  have e:s.data.toList[i]'(by simpa using hi)=s[i]:=rfl
  rw [e] at h1
  omega
 ·intro h c hc
  obtain ⟨i,hi,rfl⟩:=List.getElem_of_mem hc
  have hi':i<s.size:=by simpa using hi
  have h1:=h i hi'
  rw [← byteI_eq hi'] at h1
  have e:s.data.toList[i]=s[i]:=rfl
  rw [e]
  simp only [Bool.and_eq_true,decide_eq_true_eq]
  omega
def vdecB (d:DecD):Bool :=
 (decide (d.digits.size=0)&&(!d.neg&&decide (d.exp=0))) ||
 (decide (0<d.digits.size)&&(decide (d.digits.size≤120)&&(digB d.digits&&(!decide (byteI d.digits 0=48)&&(!decide (byteI d.digits (d.digits.size-1)=48)&&(decide (-400≤d.exp)&&decide (d.exp≤400)))))))
theorem vdecB_iff (d:DecD):vdecB d=true↔VDec d:=by
 unfold vdecB VDec
 simp only [Bool.or_eq_true,Bool.and_eq_true,decide_eq_true_eq,Bool.not_eq_true',decide_eq_false_iff_not,digB_iff,ne_eq]
def vtimeB (t:TimeD):Bool :=
 decide (1≤t.kind∧t.kind≤4∧0≤t.day∧t.day≤3652058∧0≤t.nano∧t.nano≤86399999999999∧-1439≤t.offset∧t.offset≤1439∧(t.kind=2→t.day=0)∧(t.kind=1→t.nano=0)∧(t.kind≠4→t.offset=0))
def ownB (v:ValD):Bool :=
 decide (0≤v.kind∧v.kind≤7∧(v.kind≠1→v.bool=false)∧(v.kind≠2→decB v.num ⟨false,⟨#[]⟩,0⟩=true)∧(v.kind≠3→timeB v.time ⟨0,0,0,0⟩=true)∧(v.kind≠4→v.text.size=0) ∧
  (v.kind≠5→v.bytes.length=0)∧(v.kind≠6→v.list.length=0)∧(v.kind≠7→v.fields.length=0))
def keysE (seen:List (List UInt8)):List ByteArray→Int
 | []=>0
 | k::r=>if validS k=false then 5 else if 1024<k.size then 10 else if k.data.toList∈seen then 8 else keysE (seen++[k.data.toList]) r
def keyD (v:ValD):List ByteArray:=v.fields.map (·.1)
def oneE (v:ValD):Int :=
 if ownB v=false then 6 else if vdecB v.num=false∨(v.kind=3∧vtimeB v.time=false) then 2 else if validS v.text=false then 5 else
 if 65536<v.text.size∨65536<v.bytes.length then 10 else keysE [] (keyD v)
def kidsL (f:ValD→Int→Int×Int):List ValD→Int→Int×Int
 | [],s=>(s,0)
 | x::r,s=>if (f x s).2=0 then kidsL f r (f x s).1 else f x s
def lookD:Nat→ValD→Int→Int×Int
 | 0,_,s=>(s,9)
 | m+1,v,s=>if 65536≤s then (s,10) else if oneE v=0 then kidsL (lookD m) (kidsD v) (s+1) else (s,oneE v)
def chkD (v:ValD):Int:=(lookD 48 v 0).2
theorem keysE_step {seen:List (List UInt8)} {k:ByteArray} {r:List ByteArray} (h1:validS k=true) (h2:k.size≤1024) (h3:k.data.toList ∉ seen):keysE seen (k::r)=keysE (seen++[k.data.toList]) r:=by
 simp [keysE,h1,h3,Nat.not_lt.2 h2]
def before (l:List ByteArray) (i:Nat):List (List UInt8):=(l.take i).map (·.data.toList)
theorem before_succ {l:List ByteArray} {i:Nat} (h:i<l.length):before l (i+1)=before l i++[l[i].data.toList]:=by
 unfold before
 rw [List.take_succ_eq_append_getElem h,List.map_append]
 rfl
theorem keysE_drop {l:List ByteArray} {i:Nat} (h:i<l.length):keysE (before l i) (l.drop i)=keysE (before l i) (l[i]::l.drop (i+1)):=by
 rw [List.drop_eq_getElem_cons h]
theorem keysE_go {l:List ByteArray} {i:Nat} (h:i<l.length) (h1:validS l[i]=true) (h2:l[i].size≤1024) (h3:l[i].data.toList ∉ before l i):keysE (before l i) (l.drop i)=keysE (before l (i+1)) (l.drop (i+1)):=by
 rw [keysE_drop h,keysE_step h1 h2 h3,before_succ h]
theorem keysE_5 {l:List ByteArray} {i:Nat} (h:i<l.length) (h1:validS l[i]=false):keysE (before l i) (l.drop i)=5:=by
 rw [keysE_drop h];simp [keysE,h1]
theorem keysE_10 {l:List ByteArray} {i:Nat} (h:i<l.length) (h1:validS l[i]=true) (h2:1024<l[i].size):keysE (before l i) (l.drop i)=10:=by
 rw [keysE_drop h];simp [keysE,h1,h2]
theorem keysE_8 {l:List ByteArray} {i:Nat} (h:i<l.length) (h1:validS l[i]=true) (h2:l[i].size≤1024) (h3:l[i].data.toList∈before l i):keysE (before l i) (l.drop i)=8:=by
 rw [keysE_drop h];simp [keysE,h1,h3,Nat.not_lt.2 h2]
theorem keysE_end {l:List ByteArray}:keysE (before l l.length) (l.drop l.length)=0:=by
 rw [List.drop_length];rfl
theorem mem_before {l:List ByteArray} {i:Nat} {x:List UInt8}:x∈before l i↔∃ j,∃ h:j<l.length,j<i∧l[j].data.toList=x:=by
 unfold before
 rw [List.mem_map]
 constructor
 ·rintro ⟨k,hk,rfl⟩
  obtain ⟨j,hj,rfl⟩:=List.getElem_of_mem hk
  rw [List.length_take] at hj
  exact ⟨j,by omega,by omega,by simp⟩
 ·rintro ⟨j,h,hj,rfl⟩
  exact ⟨l[j],List.mem_take_iff_getElem.2 ⟨j,by omega,rfl⟩,rfl⟩
theorem kidsL_drop (f:ValD→Int→Int×Int) {l:List ValD} {i:Nat} (h:i<l.length) (s:Int):kidsL f (l.drop i) s=if (f l[i] s).2=0 then kidsL f (l.drop (i+1)) (f l[i] s).1 else f l[i] s:=by
 rw [List.drop_eq_getElem_cons h]
 rfl
theorem kidsL_end (f:ValD→Int→Int×Int) {l:List ValD} (s:Int):kidsL f (l.drop l.length) s=(s,0):=by
 rw [List.drop_length]
 rfl
theorem lookD_range:∀ (m:Nat) (v:ValD) (s:Int),0≤s→s≤65536→0≤(lookD m v s).1∧(lookD m v s).1≤65536
 | 0,_,s,h0,h1=>⟨h0,h1⟩
 | m+1,v,s,h0,h1=>by
   have kid:∀ (l:List ValD) (s:Int),0≤s→s≤65536→0≤(kidsL (lookD m) l s).1∧(kidsL (lookD m) l s).1≤65536:=by
    intro l
    induction l with
    | nil=>intro s h0 h1;exact ⟨h0,h1⟩
    | cons x r ih =>
      intro s h0 h1
      have hx:=lookD_range m x s h0 h1
      simp only [kidsL]
      split
      ·exact ih _ hx.1 hx.2
      ·exact hx
   simp only [lookD]
   split
   ·exact ⟨h0,h1⟩
   ·split
    ·exact kid _ _ (by omega) (by omega)
    ·exact ⟨h0,h1⟩
end Go.Proofs.YtniljgkkcnekgaaGreatDoor

/- A set of strings that a call keeps in a map of its own, from strings to booleans, all of them true. -/
namespace Go.Proofs.YtniljgkkcnekgaaGreatDoor
open Go.RowKit Go.Maps
def SetAt (w:World) (K E:TypeId) (b n:Nat) (l:List (List UInt8)):Prop :=
 ∃ D:DataW Unit,w.ownsMap Tryz.prog K (plainElem Tryz.prog E) b n D∧IsMap D∧∀ s:List UInt8,D.atKey (.string s) (.lit (.bool false))=.lit (.bool (decide (s∈l)))
theorem SetAt.made (w:World) (K E:TypeId):SetAt (w.alloc (.map #[] 0)) K E w.heap.size 0 [] :=
 ⟨.map [],World.ownsMap_made _ _ _ _,isMap_empty,fun s=>by simp [DataW.atKey]⟩
theorem SetAt.mono {w:World} {K E:TypeId} {b n n':Nat} {l:List (List UInt8)} (h:SetAt w K E b n l) (hn:n≤n'):SetAt w K E b n' l:=by
 obtain ⟨D,h1,h2,h3⟩:=h
 exact ⟨D,h1.mono hn,h2,h3⟩
theorem SetAt.lt {w:World} {K E:TypeId} {b n:Nat} {l:List (List UInt8)} (h:SetAt w K E b n l):b<w.heap.size:=by
 obtain ⟨D,h1,h2,h3⟩:=h
 exact h1.lt
theorem SetAt.block {w w':World} {K E:TypeId} {b n:Nat} {l:List (List UInt8)} (h:SetAt w K E b n l) (hb:w'.heap[b]?=w.heap[b]?):SetAt w' K E b n l:=by
 obtain ⟨D,⟨es,clock,hh,r⟩,h2,h3⟩:=h
 exact ⟨D,⟨es,clock,hb.trans hh,r⟩,h2,h3⟩
theorem SetAt.below {w w':World} {K E:TypeId} {b n B:Nat} {l:List (List UInt8)} (h:SetAt w K E b n l) (hb:Below B w w') (hlt:b<B):SetAt w' K E b n l:=h.block (hb.block b hlt)
theorem SetAt.later {w w':World} {K E:TypeId} {b n:Nat} {l:List (List UInt8)} (h:SetAt w K E b n l) (hb:Below w.heap.size w w'):SetAt w' K E b n l:=h.below hb h.lt
theorem plainElem_bool_inv {H:Type} {P:Program} {e:TypeId} (he:P.underlying e=some .bool) {v:Value} {z:DataW H×List MemPlace} (h:plainElem P e v=some z):∃ a,v=.bool a∧z=(.lit (.bool a),[]):=by
 unfold plainElem at h
 rw [he] at h
 cases v<;>simp at h
 exact ⟨_,rfl,h.symm⟩
theorem keyOf_str {P:Program} {k:TypeId} (hk:P.underlying k=some .string) {s:ByteArray} (hs:s.size≤maxLen):keyOf P k (.string s)=some (.string s.data.toList):=by
 first
  | exact keyOf_string_mk hk hs
  | simp [keyOf,mapKey,hk,hs]
theorem SetAt.look {w:World} {K E t:TypeId} {b n:Nat} {l:List (List UInt8)} (h:SetAt w K E b n l) (hK:Tryz.prog.underlying K=some .string) (hE:Tryz.prog.underlying E=some .bool) (ht:Tryz.prog.underlying t=some (.map K E))
 (hz:(zeroValue E).run Tryz.prog w=.ok (.bool false) w) {s:ByteArray} (hs:s.size≤maxLen):(Instr.lookup t (.map (some b)) (.string s) false).run Tryz.prog w=.ok (.bool (decide (s.data.toList∈l))) w:=by
 obtain ⟨D,h1,h2,h3⟩:=h
 obtain ⟨v,ps,hrun,hv⟩:=h1.lookup (string_keyed hK) ht hz (plainElem_bool hE false) (keyOf_str hK hs)
 rw [h3] at hv
 obtain ⟨c,rfl,e⟩:=plainElem_bool_inv hE hv
 simp at e
 rw [hrun,e.1]
theorem wpList_look_set {w:World} {ops:Array Oper} {rest:List Oper} {o:Oper} {a:Act} {Q:Exit→Act→World→Prop} (hg:o.guard=none) (m x:Operand) (t:TypeId) (hop:o.op=Op.lookup t m x false)
 {K E:TypeId} {b n:Nat} {l:List (List UInt8)} (hK:Tryz.prog.underlying K=some .string) (hE:Tryz.prog.underlying E=some .bool) (ht:Tryz.prog.underlying t=some (.map K E)) (hz:(zeroValue E).run Tryz.prog w=.ok (.bool false) w)
 (hm:a.eval m=.map (some b)) (h:SetAt w K E b n l) (s:ByteArray) (hx:a.eval x=.string s) (hs:s.size≤maxLen) (c:Bool) (hc:decide (s.data.toList∈l)=c)
 (hk:wpList Tryz.prog ops Q rest (a.put o.dst (.bool c)) w):wpList Tryz.prog ops Q (o::rest) a w:=by
 refine wpList_plain hg fun K' hK'=>?_
 have hrun:=h.look hK hE ht hz hs
 rw [hc] at hrun
 unfold Oper.wp
 simp [execOp,hop,hm,hx,hrun,Result.andThen]
 exact hK' _ _ hk
theorem isKeyLit_string (s:List UInt8):WideAt.IsKeyLit (.string s):=by
 first | trivial | simp [WideAt.IsKeyLit] | exact ⟨_,rfl⟩
theorem wpList_put_set {w:World} {ops:Array Oper} {rest:List Oper} {o:Oper} {a:Act} {Q:Exit→Act→World→Prop} (hg:o.guard=none) (m x v:Operand) (t:TypeId) (hop:o.op=Op.mapUpdate t m x v)
 {K E:TypeId} {b n:Nat} {l:List (List UInt8)} (hK:Tryz.prog.underlying K=some .string) (hE:Tryz.prog.underlying E=some .bool) (ht:Tryz.prog.underlying t=some (.map K E))
 (hm:a.eval m=.map (some b)) (h:SetAt w K E b n l) (hn:n<maxLen) (s:ByteArray) (hx:a.eval x=.string s) (hv:a.eval v=.bool true) (hs:s.size≤maxLen)
 (hk:∀ w',SetAt w' K E b (n+1) (l++[s.data.toList])→w.grownBy w' (some b)→wpList Tryz.prog ops Q rest (a.put o.dst undef) w'):wpList Tryz.prog ops Q (o::rest) a w:=by
 obtain ⟨D,h1,h2,h3⟩:=h
 refine wpList_mapUpdate_own w hg m x v t hop K E (string_keyed hK) ht _ b n D hm h1 hn _ _ (.string s.data.toList) hx hv (keyOf_str hK hs) _ [] (plainElem_bool hE true) (fun w' r1 r2=>hk w' ⟨_,r1,h2.put _ _,fun q=>?_⟩ r2)
 by_cases hq:q=s.data.toList
 ·subst hq
  rw [atKey_put_same h2 (isKeyLit_string _)]
  simp
 ·rw [atKey_put_other (by simpa using hq),h3]
  simp [hq]
end Go.Proofs.YtniljgkkcnekgaaGreatDoor
