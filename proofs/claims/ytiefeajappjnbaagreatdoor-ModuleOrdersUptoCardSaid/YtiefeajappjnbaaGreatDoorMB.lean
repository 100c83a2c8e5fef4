/- The source of an accepted expression, as the document has it: plain functions. No program here. -/
import Derived.Test.YtiefeajappjnbaaGreatDoorGG
import Derived.Test.YtiefeajappjnbaaGreatDoorGD
import Derived.Test.YtiefeajappjnbaaGreatDoorHD
import Derived.Test.YtiefeajappjnbaaGreatDoorGA
import Derived.Test.YtiefeajappjnbaaGreatDoorHQ
import Derived.Test.YtiefeajappjnbaaGreatDoorGJ
import Derived.Test.YtiefeajappjnbaaGreatDoorRow36
namespace Go.Proofs.YtiefeajappjnbaaGreatDoor
open Go.RowKit
def hexC (d:Int):Int:=if d<10 then 48+d else 87+d
def escB (c:Int):List Int :=
 if c=34 then [92,34] else if c=92 then [92,92] else if c=8 then [92,98] else if c=12 then [92,102] else if c=10 then [92,110] else if c=13 then [92,114] else if c=9 then [92,116]
 else if c<32 then [92,117,48,48,hexC (c / 16),hexC (c % 16)] else [c]
def escL:List Int→List Int
 | []=>[]
 | c::r=>escB c++escL r
theorem escL_append:∀ (a b:List Int),escL (a++b)=escL a++escL b
 | [],b=>rfl
 | c::r,b=>by simp [escL,escL_append r b]
theorem escB_len (c:Int):(escB c).length≤6:=by unfold escB;(repeat' split)<;>simp
theorem escL_len:∀ (l:List Int),(escL l).length≤6 * l.length
 | []=>by simp [escL]
 | c::r=>by
   have:=escB_len c
   have:=escL_len r
   simp [escL];omega
def nums (s:ByteArray):List Int:=s.data.toList.map fun b=>(b.toNat:Int)
theorem nums_length (s:ByteArray):(nums s).length=s.size:=by simp [nums]
theorem nums_get (s:ByteArray) (i:Nat) (h:i<s.size):(nums s)[i]'(by rw [nums_length];exact h)=byteI s i:=by
 rw [← byteI_eq h]
 simp [nums]
 rfl
theorem esc_take {s:ByteArray} {i:Nat} (h:i<s.size):escL ((nums s).take (i+1))=escL ((nums s).take i)++escB (byteI s i):=by
 rw [List.take_succ_eq_append_getElem (by rw [nums_length];exact h),escL_append,nums_get s i h]
 simp [escL]
def quoteS (s:ByteArray):ByteArray:=strOfNums (34::(escL (nums s)++[34]))
theorem quoteS_size (s:ByteArray):(quoteS s).size≤6 * s.size+2:=by
 unfold quoteS
 rw [strOfNums_size]
 have:=escL_len (nums s)
 rw [nums_length] at this
 simp
 omega
def digL (n:Nat):List Int:=if _h:n=0 then [] else digL (n / 10)++[((48+n % 10:Nat):Int)]
termination_by n
decreasing_by omega
theorem digL_0:digL 0=[]:=by rw [digL];rfl
theorem digL_step {n:Nat} (h:n≠0):digL n=digL (n / 10)++[((48+n % 10:Nat):Int)]:=by rw [digL,dif_neg h]
theorem digL_len:∀ (k n:Nat),n<10 ^ k→(digL n).length≤k
 | 0,n,h=>by
   have:n=0:=by simpa using h
   subst this
   simp [digL_0]
 | k+1,n,h=>by
   by_cases h0:n=0
   ·subst h0;simp [digL_0]
   ·rw [digL_step h0]
    have:=digL_len k (n / 10) (by rw [Nat.pow_succ] at h;omega)
    simp
    omega
def fromI (n:Nat):ByteArray:=strOfNums (digL n)
def wholeS (n:Nat):ByteArray:=if n=0 then ⟨#[48]⟩ else fromI n
def signS (b:Bool):ByteArray:=if b then ⟨#[45]⟩ else ⟨#[]⟩
def numT (d:DecD):ByteArray :=
 if d.digits.size=0 then ⟨#[48]⟩ else
 if 0≤d.exp∧d.digits.size+d.exp≤21 then signS d.neg++d.digits++zerosS d.exp.toNat else
 if d.exp<0∧1≤d.digits.size+d.exp∧d.digits.size+d.exp≤21 then signS d.neg++d.digits.extract 0 (d.digits.size+d.exp).toNat++⟨#[46]⟩++d.digits.extract (d.digits.size+d.exp).toNat d.digits.size else
 if -5≤d.digits.size+d.exp∧d.digits.size+d.exp≤0 then signS d.neg++⟨#[48,46]⟩++zerosS (-(d.digits.size+d.exp)).toNat++d.digits else
 (if d.digits.size > 1 then signS d.neg++d.digits.extract 0 1++(⟨#[46]⟩++d.digits.extract 1 d.digits.size) else signS d.neg++d.digits.extract 0 1) ++
 (if d.digits.size+d.exp<1 then ⟨#[101,45]⟩++wholeS (1-(d.digits.size+d.exp)).toNat else ⟨#[101]⟩++wholeS (d.digits.size+d.exp-1).toNat)
def levS (e:ExprD):Int :=
 if e.op=23∨e.op=22∨e.op=26∨e.op=9 then 0 else if e.op=10 then 1 else if e.op=16 then 2 else if e.op=28∨e.op=29 then 3 else if e.op=15 then 4 else if e.op=14 then 5 else if e.op=13 then 6 else
 if e.op=12 then (if e.name.data.toList=[43]∨e.name.data.toList=[45] then 7 else 8) else if e.op=11 then 9 else if e.op=17∧(e.args.getD 1 default).op≠30 then 9 else 10
def inP (s:ByteArray):ByteArray:=⟨#[40]⟩++s++⟨#[41]⟩
def atS (f:ExprD→ByteArray) (k:Int) (e:ExprD):ByteArray:=if levS e<k then inP (f e) else f e
def presS (f:ExprD→ByteArray) (e:ExprD):ByteArray:=if e.op=30 then ⟨#[]⟩ else f e
def joinS (sep:ByteArray):List ByteArray→ByteArray
 | []=>⟨#[]⟩
 | [a]=>a
 | a::b::r=>a++sep++joinS sep (b::r)
def parS (p:ParD):ByteArray:=if p.value then ⟨#[36]⟩++p.name else p.name
def headS (f:FuncD):ByteArray:=if f.params=[] then ⟨#[100,101,102,32]⟩++f.name else ⟨#[100,101,102,32]⟩++f.name++(⟨#[40]⟩++joinS ⟨#[59,32]⟩ (f.params.map parS)++⟨#[41]⟩)
def defS (f:ExprD→ByteArray) (x:FuncD):ByteArray:=headS x++⟨#[58,32]⟩++f x.body++⟨#[59]⟩
def defsS (f:ExprD→ByteArray):List FuncD→ByteArray
 | []=>⟨#[]⟩
 | x::r=>defS f x++⟨#[32]⟩++defsS f r
def bodyS (f:ExprD→ByteArray) (e:ExprD):ByteArray:=if e.op=23 then inP (f e) else f e
def litS (v:ValD):ByteArray :=
 if v.kind=1 then (if v.bool then ⟨#[116,114,117,101]⟩ else ⟨#[102,97,108,115,101]⟩) else if v.kind=2 then numT v.num else if v.kind=4 then quoteS v.text else ⟨#[110,117,108,108]⟩
def keyS (f:ExprD→ByteArray) (e:ExprD):ByteArray:=if e.op=3∧e.val.kind=4 then quoteS e.val.text else inP (f e)
def pairsS (f:ExprD→ByteArray):List ExprD→List ByteArray
 | k::v::r=>(keyS f k++⟨#[58,32]⟩++atS f 2 v)::pairsS f r
 | _=>[]
def twoS (f:ExprD→ByteArray) (e:ExprD) (l:Int) (o:ByteArray) (r:Int):ByteArray:=atS f l (e.args.getD 0 default)++o++atS f r (e.args.getD 1 default)
def stepT (f:ExprD→ByteArray) (e:ExprD):ByteArray :=
 if e.op=1 then ⟨#[46]⟩ else
 if e.op=2 then ⟨#[46,46]⟩ else
 if e.op=3 then litS e.val else
 if e.op=4 then ⟨#[36]⟩++e.name else
 if e.op=27 then ⟨#[98,114,101,97,107,32,36]⟩++e.name else
 if e.op=5 then (if (e.args.getD 0 default).op=1 then ⟨#[]⟩ else atS f 10 (e.args.getD 0 default))++⟨#[46]⟩++(if nameB e.name=true then e.name else quoteS e.name) else
 if e.op=6 then atS f 10 (e.args.getD 0 default)++⟨#[91]⟩++f (e.args.getD 1 default)++⟨#[93]⟩ else
 if e.op=7 then atS f 10 (e.args.getD 0 default)++⟨#[91]⟩++presS f (e.args.getD 1 default)++⟨#[58]⟩++presS f (e.args.getD 2 default)++⟨#[93]⟩ else
 if e.op=8 then atS f 10 (e.args.getD 0 default)++⟨#[91,93]⟩ else
 if e.op=11 then ⟨#[45]⟩++atS f 9 (e.args.getD 0 default) else
 if e.op=17 then (if (e.args.getD 1 default).op=30 then atS f 10 (e.args.getD 0 default)++⟨#[63]⟩ else ⟨#[116,114,121,32]⟩++atS f 10 (e.args.getD 0 default)++⟨#[32,99,97,116,99,104,32]⟩++atS f 10 (e.args.getD 1 default)) else
 if e.op=18 then ⟨#[105,102,32]⟩++f (e.args.getD 0 default)++⟨#[32,116,104,101,110,32]⟩++f (e.args.getD 1 default)++(if (e.args.getD 2 default).op=30 then ⟨#[]⟩ else ⟨#[32,101,108,115,101,32]⟩++f (e.args.getD 2 default))++⟨#[32,101,110,100]⟩ else
 if e.op=19 then ⟨#[114,101,100,117,99,101,32]⟩++atS f 10 (e.args.getD 0 default)++⟨#[32,97,115,32,36]⟩++e.name++⟨#[32,40]⟩++f (e.args.getD 1 default)++⟨#[59,32]⟩++f (e.args.getD 2 default)++⟨#[41]⟩ else
 if e.op=20 then ⟨#[102,111,114,101,97,99,104,32]⟩++atS f 10 (e.args.getD 0 default)++⟨#[32,97,115,32,36]⟩++e.name++⟨#[32,40]⟩++f (e.args.getD 1 default)++⟨#[59,32]⟩++f (e.args.getD 2 default)++(if (e.args.getD 3 default).op=30 then ⟨#[]⟩ else ⟨#[59,32]⟩++f (e.args.getD 3 default))++⟨#[41]⟩ else
 if e.op=21 then (if e.args=[] then e.name else e.name++⟨#[40]⟩++joinS ⟨#[59,32]⟩ (e.args.map f)++⟨#[41]⟩) else
 if e.op=22 then atS f 10 (e.args.getD 0 default)++⟨#[32,97,115,32,36]⟩++e.name++⟨#[32,124,32]⟩++f (e.args.getD 1 default) else
 if e.op=26 then ⟨#[108,97,98,101,108,32,36]⟩++e.name++⟨#[32,124,32]⟩++f (e.args.getD 0 default) else
 if e.op=23 then defsS f e.funcs++bodyS f (e.args.getD 0 default) else
 if e.op=24 then ⟨#[91]⟩++presS f (e.args.getD 0 default)++⟨#[93]⟩ else
 if e.op=25 then ⟨#[123]⟩++joinS ⟨#[44,32]⟩ (pairsS f e.args)++⟨#[125]⟩ else
 if e.op=9 then twoS f e 1 ⟨#[32,124,32]⟩ 0 else
 if e.op=10 then twoS f e 1 ⟨#[44,32]⟩ 2 else
 if e.op=16 then twoS f e 3 ⟨#[32,47,47,32]⟩ 2 else
 if e.op=28 then twoS f e 4 ⟨#[32,61,32]⟩ 4 else
 if e.op=29 then twoS f e 4 ⟨#[32,124,61,32]⟩ 4 else
 if e.op=15 then twoS f e 4 ⟨#[32,111,114,32]⟩ 5 else
 if e.op=14 then twoS f e 5 ⟨#[32,97,110,100,32]⟩ 6 else
 if e.op=13 then twoS f e 7 (⟨#[32]⟩++e.name++⟨#[32]⟩) 7 else
 if e.op=12 then twoS f e (levS e) (⟨#[32]⟩++e.name++⟨#[32]⟩) (levS e+1) else ⟨#[]⟩
def showS:Nat→ExprD→ByteArray
 | 0=>stepT fun _=>⟨#[]⟩
 | m+1=>stepT (showS m)
end Go.Proofs.YtiefeajappjnbaaGreatDoor

/- How tightly an expression binds: the program's level and the reference's. -/
namespace Go.Proofs.YtiefeajappjnbaaGreatDoor
open Go.RowKit
theorem szl (a:Array UInt8):(⟨a⟩:ByteArray).size=a.size:=rfl
theorem args2_at {x:ExprD} {w:World} {B N:Nat} {aa fa:Option Addr} {ac fc:Nat} {cs vs:List Value} (hh:ExprD.Has w B N x cs aa fa ac fc vs) (h2:x.args.length=2):∃ b o a0 a1,aa=some ⟨b,o,none⟩∧b<B∧CellsAt w b o a0∧ExprD.At w B N (x.args.getD 0 default) a0∧CellsAt w b (o+17) a1∧ExprD.At w B N (x.args.getD 1 default) a1:=by
 obtain ⟨b,o,rfl,hb,hget⟩:=hh.atArgs.get (by intro h;rw [h] at h2;simp at h2)
 obtain ⟨a0,h0,k0⟩:=hget 0 (by omega)
 obtain ⟨a1,h1,k1⟩:=hget 1 (by omega)
 refine ⟨b,o,a0,a1,rfl,hb,by simpa using h0,?_,by simpa using h1,?_⟩
 ·rw [List.getD_eq_getElem?_getD,List.getElem?_eq_getElem (by omega)];exact k0
 ·rw [List.getD_eq_getElem?_getD,List.getElem?_eq_getElem (by omega)];exact k1
set_option maxRecDepth 100000 in
set_option maxHeartbeats 3200000 in
theorem level_p (x:ExprD) (w:World) (B N:Nat) (cs:List Value) (hop:1≤x.op∧x.op≤30) (h17:x.op=17→x.args.length=2) (hB:B≤w.heap.size) (hx:ExprD.At w B N x cs):Calls Tryz.prog 107 #[.agg cs.toArray] w (IntB (levS x) w):=by
 obtain ⟨aa,fa,ac,fc,vs,hh⟩:=hx.has
 have c0:=hh.op
 have c1:=hh.name
 have c15:=hh.args
 have R0:=Hd (box_at w cs 34)
 have H0:=Hd (belowBox w (.cells cs.toArray 34))
 have e0:=R0.out.get0 c0
 obtain ⟨K,hK⟩:∃ K,levS x=K:=⟨_,rfl⟩
 rw [hK]
 have HK:=Hd hK
 clear hK
 by_cases h12:x.op=12
 ·have e1:=R0.out.get0 c1
  rw [h12] at e0
  have HH:=Hd h12
  clear hh hx c0 c1 c15 h17 hop h12
  by_cases hp:x.name=⟨#[43]⟩
  ·rw [hp] at e1
   have HP:=Hd hp
   clear hp
   go_enter Tryz.func107,Tryz.ntmps107
   go_wp2_with fail
   go_ret
   exact ⟨by rw [← HK.out];unfold levS;rw [HH.out,HP.out];rfl,H0.out⟩
  by_cases hq:x.name=⟨#[45]⟩
  ·rw [hq] at e1
   have HP:=Hd hq
   clear hp hq
   go_enter Tryz.func107,Tryz.ntmps107
   go_wp2_with fail
   go_ret
   exact ⟨by rw [← HK.out];unfold levS;rw [HH.out,HP.out];rfl,H0.out⟩
  have HP:=Hd (show ¬ (x.name.data.toList=[43]∨x.name.data.toList=[45]) by
   rintro (h | h)
   ·exact hp (by have:x.name.data=#[43]:=Array.toList_inj.1 h;cases hx9:x.name;simp_all)
   ·exact hq (by have:x.name.data=#[45]:=Array.toList_inj.1 h;cases hx9:x.name;simp_all))
  have q1:(x.name.toList==[43])=false:=by simpa using fun h=>HP.out (.inl (by rw [← ByteArray.toList_eq];exact h))
  have q2:(x.name.toList==[45])=false:=by simpa using fun h=>HP.out (.inr (by rw [← ByteArray.toList_eq];exact h))
  have HLV:=Hd (show levS x=8 by unfold levS;rw [HH.out,if_neg HP.out];rfl)
  clear HP HH
  obtain ⟨nm,hnm⟩:∃ nm,x.name=nm:=⟨_,rfl⟩
  rw [hnm] at e1 q1 q2
  clear hnm hp hq
  go_enter Tryz.func107,Tryz.ntmps107
  go_wp2_with fail
  go_ret
  exact ⟨by rw [← HK.out,HLV.out];rfl,H0.out⟩
 by_cases h17':x.op=17
 ·rw [h17'] at e0
  have e15:=R0.out.get0 c15
  obtain ⟨b,o,a0,a1,rfl,hb,_,_,r1,k1⟩:=args2_at hh (h17 h17')
  obtain ⟨_,_,_,_,_,g1⟩:=k1.has
  have f1:=(r1.below (H0.out.mono hB) hb).get0' g1.op
  rw [h17 h17'] at e15
  have HH:=Hd h17'
  obtain ⟨q,hq⟩:∃ q,(x.args.getD 1 default).op=q:=⟨_,rfl⟩
  rw [hq] at f1
  have HQ:=Hd hq
  clear hh hx c0 c1 c15 h17 hop h12 h17' hq r1 k1 g1
  by_cases h30:q=30
  ·subst h30
   have HLV:=Hd (show levS x=10 by unfold levS;rw [HH.out,HQ.out];rfl)
   go_enter Tryz.func107,Tryz.ntmps107
   go_wp2_with fail
   go_ret
   exact ⟨by rw [← HK.out,HLV.out];rfl,H0.out⟩
  ·have HLV:=Hd (show levS x=9 by unfold levS;rw [HH.out,HQ.out];simp [h30])
   have q1:(q != 30)=true:=by simpa using h30
   have q2:(q==30)=false:=by simpa using h30
   clear h30
   go_enter Tryz.func107,Tryz.ntmps107
   go_wp2_with fail
   go_ret
   exact ⟨by rw [← HK.out,HLV.out];rfl,H0.out⟩
 have HO:=Hd hop
 have H12:=Hd h12
 have H17:=Hd h17'
 clear hh hx c0 c1 c15 h17 hop h12 h17'
 rcases ops31 HO.out with h | h | h | h | h | h | h | h | h | h | h | h | h | h | h | h | h | h | h | h | h | h | h | h | h | h | h | h | h | h
 all_goals
  have HH:=Hd h
  rw [h] at e0
  clear h
  first
   | exact absurd HH.out H12.out
   | exact absurd HH.out H17.out
   | (go_enter Tryz.func107,Tryz.ntmps107
      go_wp2_with fail
      go_ret
      exact ⟨by rw [← HK.out];unfold levS;rw [HH.out];rfl,H0.out⟩)
end Go.Proofs.YtiefeajappjnbaaGreatDoor

/- qparse.arg: the source of an argument, in parentheses if it binds too loosely. -/
namespace Go.Proofs.YtiefeajappjnbaaGreatDoor
open Go.RowKit
def StrB (s:ByteArray) (w:World) (e:Ending) (w':World):Prop:=e=.returned (.string s)∧Below w.heap.size w w'
def ShwP (f:ExprD→ByteArray) (y:ExprD):Prop:=∀ (w:World) (B N:Nat) (cs:List Value),N≤1048576→B≤w.heap.size→Env w→ExprD.At w B N y cs→Calls Tryz.prog 22 #[.agg cs.toArray] w (StrB (f y) w)
structure KidP (f:ExprD→ByteArray) (y:ExprD):Prop where
 op:1≤y.op∧y.op≤29
 try_:y.op=17→y.args.length=2
 size:(f y).size≤274877906944
 call:ShwP f y
theorem atS_le (f:ExprD→ByteArray) (k:Int) (e:ExprD):(atS f k e).size≤(f e).size+2:=by
 unfold atS
 split
 ·unfold inP
  simp only [ByteArray.size_append,szl,List.size_toArray,List.length_cons,List.length_nil]
  omega
 ·omega
theorem int_lt {a b:Int} (h:a<b):decide (a<b)=true:=by simpa using h
set_option maxRecDepth 100000 in
set_option maxHeartbeats 3200000 in
theorem arg_p (f:ExprD→ByteArray) (y:ExprD) (hk:KidP f y) (k:Int) (w:World) (B N:Nat) (cs:List Value) (hN:N≤1048576) (hB:B≤w.heap.size) (hE:Env w) (hy:ExprD.At w B N y cs):Calls Tryz.prog 58 #[.agg cs.toArray,.int .i64 k] w (StrB (atS f k y) w):=by
 have HY:=Hd hy
 have HE:=Hd hE
 have HK:=Hd hk
 have hl:=Hd (show (Tryz.prog.info? 34).map (·.size)=some cs.length by rw [hy.len];kernel_rfl)
 have R0:=Hd (box_at w cs 34)
 have hs0:=Hd (show w.heap.size<(w.alloc (.cells cs.toArray 34)).heap.size by rw [World.size_alloc];omega)
 have H0:=Hd (belowBox w (.cells cs.toArray 34))
 have HSZ:=Hd hk.size
 clear hy hk hE
 go_enter Tryz.func58,Tryz.ntmps58
 go_wp2_with (refine wpList_load_mid rfl 34 _ rfl w.heap.size 0 rfl cs _ R0.out.range Tryz.underlying34 rfl hl.out ?_)
 refine (level_p y _ B N cs ⟨HK.out.op.1,by have:=HK.out.op.2;omega⟩ HK.out.try_ (Nat.le_trans hB H0.out.size) (HY.out.below (H0.out.mono hB))).mono ?_
 rintro e w1 ⟨rfl,hb1⟩
 have H1:=Hd (belowThen H0.out hb1)
 have R1:=Hd (R0.out.then hb1 hs0.out)
 have HA:=Hd (show atS f k y=if levS y<k then inP (f y) else f y from rfl)
 obtain ⟨lv,hlv⟩:∃ lv,levS y=lv:=⟨_,rfl⟩
 rw [hlv] at HA ⊢
 clear hb1 hlv
 by_cases h:lv<k
 ·have HR:=Hd (HA.out.trans (if_pos h))
  go_wp2_with (refine wpList_load_mid rfl 34 _ rfl w.heap.size 0 rfl cs _ R1.out.range Tryz.underlying34 rfl hl.out ?_)
  refine (HK.out.call _ B N cs hN (Nat.le_trans hB H1.out.size) (HE.out.then H1.out) (HY.out.below (H1.out.mono hB))).mono ?_
  rintro e w2 ⟨rfl,hb2⟩
  have H2:=Hd (belowThen H1.out hb2)
  have s1:(⟨#[40]⟩:ByteArray).size+(f y).size≤9223372036854775807:=by have:=HSZ.out;simp only [szl,List.size_toArray,List.length_cons,List.length_nil];omega
  have s2:((⟨#[40]⟩:ByteArray)++f y).size+(⟨#[41]⟩:ByteArray).size≤9223372036854775807:=by have:=HSZ.out;simp only [ByteArray.size_append,szl,List.size_toArray,List.length_cons,List.length_nil];omega
  clear hb2
  go_wp2_with fail
  go_ret
  exact ⟨by rw [HR.out];rfl,H2.out⟩
 ·have HR:=Hd (HA.out.trans (if_neg h))
  go_wp2_with (refine wpList_load_mid rfl 34 _ rfl w.heap.size 0 rfl cs _ R1.out.range Tryz.underlying34 rfl hl.out ?_)
  refine (HK.out.call _ B N cs hN (Nat.le_trans hB H1.out.size) (HE.out.then H1.out) (HY.out.below (H1.out.mono hB))).mono ?_
  rintro e w2 ⟨rfl,hb2⟩
  have H2:=Hd (belowThen H1.out hb2)
  clear hb2
  go_wp2_with fail
  go_ret
  exact ⟨by rw [HR.out];rfl,H2.out⟩
end Go.Proofs.YtiefeajappjnbaaGreatDoor

/- qparse.present, qparse.guarded. -/
namespace Go.Proofs.YtiefeajappjnbaaGreatDoor
open Go.RowKit
theorem lev_nonneg (e:ExprD):0≤levS e:=by
 unfold levS
 (repeat' split)<;>decide
theorem atS_0 (f:ExprD→ByteArray) (e:ExprD):atS f 0 e=f e:=by
 unfold atS
 rw [if_neg (by have:=lev_nonneg e;omega)]
set_option maxRecDepth 100000 in
set_option maxHeartbeats 3200000 in
theorem present_p (f:ExprD→ByteArray) (y:ExprD) (hk:y.op≠30→KidP f y) (w:World) (B N:Nat) (cs:List Value) (hN:N≤1048576) (hB:B≤w.heap.size) (hE:Env w) (hy:ExprD.At w B N y cs):Calls Tryz.prog 60 #[.agg cs.toArray] w (StrB (presS f y) w):=by
 have HY:=Hd hy
 have HE:=Hd hE
 have HK:=Hd hk
 obtain ⟨aa,fa,ac,fc,vs,hh⟩:=hy.has
 have hl:=Hd (show (Tryz.prog.info? 34).map (·.size)=some cs.length by rw [hy.len];kernel_rfl)
 have R0:=Hd (box_at w cs 34)
 have H0:=Hd (belowBox w (.cells cs.toArray 34))
 have e0:=R0.out.get0 hh.op
 have HP:=Hd (show presS f y=if y.op=30 then ⟨#[]⟩ else f y from rfl)
 obtain ⟨q,hq⟩:∃ q,y.op=q:=⟨_,rfl⟩
 rw [hq] at e0 HP HK
 clear hy hk hE hh hq
 by_cases h:q=30
 ·subst h
  have HR:=Hd (HP.out.trans (if_pos rfl))
  go_enter Tryz.func60,Tryz.ntmps60
  go_wp2_with fail
  go_ret
  exact ⟨by rw [HR.out];rfl,H0.out⟩
 ·have HR:=Hd (HP.out.trans (if_neg h))
  have HKK:=Hd (HK.out h)
  have q1:(q==30)=false:=by simpa using h
  clear h
  go_enter Tryz.func60,Tryz.ntmps60
  go_wp2_with (refine wpList_load_mid rfl 34 _ rfl w.heap.size 0 rfl cs _ R0.out.range Tryz.underlying34 rfl hl.out ?_)
  refine (arg_p f y HKK.out 0 _ B N cs hN (Nat.le_trans hB H0.out.size) (HE.out.then H0.out) (HY.out.below (H0.out.mono hB))).mono ?_
  rw [atS_0]
  rintro e w1 ⟨rfl,hb1⟩
  have H1:=Hd (belowThen H0.out hb1)
  clear hb1
  go_wp2_with fail
  go_ret
  exact ⟨by rw [HR.out];rfl,H1.out⟩
set_option maxRecDepth 100000 in
set_option maxHeartbeats 3200000 in
theorem guarded_p (f:ExprD→ByteArray) (y:ExprD) (hk:ShwP f y) (hz:(f y).size≤274877906944) (w:World) (B N:Nat) (cs:List Value) (hN:N≤1048576) (hB:B≤w.heap.size) (hE:Env w) (hy:ExprD.At w B N y cs):Calls Tryz.prog 28 #[.agg cs.toArray] w (StrB (bodyS f y) w):=by
 have HY:=Hd hy
 have HE:=Hd hE
 have HK:=Hd hk
 have HSZ:=Hd hz
 obtain ⟨aa,fa,ac,fc,vs,hh⟩:=hy.has
 have hl:=Hd (show (Tryz.prog.info? 34).map (·.size)=some cs.length by rw [hy.len];kernel_rfl)
 have R0:=Hd (box_at w cs 34)
 have H0:=Hd (belowBox w (.cells cs.toArray 34))
 have e0:=R0.out.get0 hh.op
 have HP:=Hd (show bodyS f y=if y.op=23 then inP (f y) else f y from rfl)
 obtain ⟨q,hq⟩:∃ q,y.op=q:=⟨_,rfl⟩
 rw [hq] at e0 HP
 clear hy hk hE hh hq hz
 by_cases h:q=23
 ·subst h
  have HR:=Hd (HP.out.trans (if_pos rfl))
  go_enter Tryz.func28,Tryz.ntmps28
  go_wp2_with (refine wpList_load_mid rfl 34 _ rfl w.heap.size 0 rfl cs _ R0.out.range Tryz.underlying34 rfl hl.out ?_)
  refine (HK.out _ B N cs hN (Nat.le_trans hB H0.out.size) (HE.out.then H0.out) (HY.out.below (H0.out.mono hB))).mono ?_
  rintro e w1 ⟨rfl,hb1⟩
  have H1:=Hd (belowThen H0.out hb1)
  have s1:(⟨#[40]⟩:ByteArray).size+(f y).size≤9223372036854775807:=by have:=HSZ.out;simp only [szl,List.size_toArray,List.length_cons,List.length_nil];omega
  have s2:((⟨#[40]⟩:ByteArray)++f y).size+(⟨#[41]⟩:ByteArray).size≤9223372036854775807:=by have:=HSZ.out;simp only [ByteArray.size_append,szl,List.size_toArray,List.length_cons,List.length_nil];omega
  clear hb1
  go_wp2_with fail
  go_ret
  exact ⟨by rw [HR.out];rfl,H1.out⟩
 ·have HR:=Hd (HP.out.trans (if_neg h))
  have q1:(q==23)=false:=by simpa using h
  clear h
  go_enter Tryz.func28,Tryz.ntmps28
  go_wp2_with (refine wpList_load_mid rfl 34 _ rfl w.heap.size 0 rfl cs _ R0.out.range Tryz.underlying34 rfl hl.out ?_)
  refine (HK.out _ B N cs hN (Nat.le_trans hB H0.out.size) (HE.out.then H0.out) (HY.out.below (H0.out.mono hB))).mono ?_
  rintro e w1 ⟨rfl,hb1⟩
  have H1:=Hd (belowThen H0.out hb1)
  clear hb1
  go_wp2_with fail
  go_ret
  exact ⟨by rw [HR.out];rfl,H1.out⟩
end Go.Proofs.YtiefeajappjnbaaGreatDoor
