/- The order of values is an order: any two are comparable, and it is transitive (plain). -/
import Derived.Test.YtagkjofpncpcpaaGreatDoorProg
import Derived.Test.YtagkjofpncpcpaaGreatDoorGA
import Derived.Test.YtagkjofpncpcpaaGreatDoorGB
import Derived.Test.YtagkjofpncpcpaaGreatDoorGC
import Derived.Test.YtagkjofpncpcpaaGreatDoorGD
import Derived.Test.YtagkjofpncpcpaaGreatDoorRow36
import Derived.Test.YtagkjofpncpcpaaGreatDoorChkq
import Derived.Test.YtagkjofpncpcpaaGreatDoorSmg07
import Derived.Test.YtagkjofpncpcpaaGreatDoorXA
namespace Go.Proofs.YtagkjofpncpcpaaGreatDoor
namespace Stb
end Stb
open Stb
structure TriC {α:Type} (P:α→Prop) (f:α→α→Int):Prop where
 anti:∀ a b,P a→P b→(f a b<0↔0<f b a)
 trans:∀ a b c,P a→P b→P c→f a b≤0→f b c≤0→f a c≤0
section
variable {α β:Type} {P:α→Prop} {f g:α→α→Int} {a b c:α}
theorem TriC.neg (h:TriC P f) (ha:P a) (hb:P b):f a b≤0↔0≤f b a:=by
 have:=h.anti b a hb ha
 omega
theorem TriC.zero (h:TriC P f) (ha:P a) (hb:P b) (e:f a b=0):f b a=0:=by
 have h1:=h.anti b a hb ha
 have h2:=h.anti a b ha hb
 omega
theorem TriC.lt_le (h:TriC P f) (ha:P a) (hb:P b) (hc:P c) (h1:f a b<0) (h2:f b c≤0):f a c<0:=by
 by_cases h3:f a c<0
 ·exact h3
 ·have h4:f c a≤0:=(h.neg hc ha).2 (by omega)
  have h5:=h.trans b c a hb hc ha h2 h4
  have h6:=(h.anti a b ha hb).1 h1
  omega
theorem TriC.le_lt (h:TriC P f) (ha:P a) (hb:P b) (hc:P c) (h1:f a b≤0) (h2:f b c<0):f a c<0:=by
 by_cases h3:f a c<0
 ·exact h3
 ·have h4:f c a≤0:=(h.neg hc ha).2 (by omega)
  have h5:=h.trans c a b hc ha hb h4 h1
  have h6:=(h.anti b c hb hc).1 h2
  omega
theorem TriC.eqs (h:TriC P f) (ha:P a) (hb:P b) (hc:P c) (h1:f a b=0) (h2:f b c=0):f a c=0:=by
 have h3:=h.trans a b c ha hb hc (by omega) (by omega)
 have h4:=h.trans c b a hc hb ha (by have:=h.zero hb hc h2;omega) (by have:=h.zero ha hb h1;omega)
 have h5:=(h.neg hc ha).1 h4
 omega
def lexC (f g:α→α→Int) (a b:α):Int:=if f a b=0 then g a b else f a b
theorem TriC.lex (hf:TriC P f) (hg:TriC P g):TriC P (lexC f g):=by
 constructor
 ·intro a b ha hb
  unfold lexC
  have h1:=hf.anti a b ha hb
  have h3:=hg.anti a b ha hb
  by_cases e:f a b=0
  ·rw [if_pos e,if_pos (hf.zero ha hb e)];exact h3
  ·rw [if_neg e,if_neg (fun e2=>e (hf.zero hb ha e2))];exact h1
 ·intro a b c ha hb hc
  unfold lexC
  intro x y
  by_cases e1:f a b=0
  ·rw [if_pos e1] at x
   by_cases e2:f b c=0
   ·rw [if_pos e2] at y
    rw [if_pos (hf.eqs ha hb hc e1 e2)]
    exact hg.trans a b c ha hb hc x y
   ·rw [if_neg e2] at y
    have:=hf.le_lt ha hb hc (by omega:f a b≤0) (by omega:f b c<0)
    rw [if_neg (by omega)]
    omega
  ·rw [if_neg e1] at x
   have e3:f b c≤0:=by
    by_cases e2:f b c=0
    ·omega
    ·rw [if_neg e2] at y;exact y
   have:=hf.lt_le ha hb hc (by omega:f a b<0) e3
   rw [if_neg (by omega)]
   omega
theorem TriC.on {Q:β→Prop} (h:TriC P f) (k:β→α) (hq:∀ x,Q x→P (k x)):TriC Q (fun x y=>f (k x) (k y)) :=
 ⟨fun a b ha hb=>h.anti _ _ (hq a ha) (hq b hb),fun a b c ha hb hc=>h.trans _ _ _ (hq a ha) (hq b hb) (hq c hc)⟩
theorem sgnT_lt {a b:Int}:sgn a b<0↔a<b:=by
 unfold sgn
 by_cases h1:a<b
 ·rw [if_pos h1];omega
 ·rw [if_neg h1]
  by_cases h2:b<a
  ·rw [if_pos h2];omega
  ·rw [if_neg h2];omega
theorem sgnT_gt {a b:Int}:0<sgn a b↔b<a:=by
 unfold sgn
 by_cases h1:a<b
 ·rw [if_pos h1];omega
 ·rw [if_neg h1]
  by_cases h2:b<a
  ·rw [if_pos h2];omega
  ·rw [if_neg h2];omega
theorem sgnT_le {a b:Int}:sgn a b≤0↔a≤b:=by
 have:=@sgnT_gt a b
 omega
theorem tri_sgn:TriC (fun _=>True) sgn:=⟨fun a b _ _=>by rw [sgnT_lt,sgnT_gt],fun a b c _ _ _=>by rw [sgnT_le,sgnT_le,sgnT_le];omega⟩
theorem lis_anti (h:TriC P f):∀ l m:List α,(∀ x∈l,P x)→(∀ x∈m,P x)→(lisC f l m<0↔0<lisC f m l)
 | [],[],_,_=>by
   show sgn _ _<0↔0<sgn _ _
   rw [sgnT_lt,sgnT_gt]
   simp
 | [],y::s,_,_=>by
   show sgn _ _<0↔0<sgn _ _
   rw [sgnT_lt,sgnT_gt]
 | x::r,[],_,_=>by
   show sgn _ _<0↔0<sgn _ _
   rw [sgnT_lt,sgnT_gt]
 | x::r,y::s,h1,h2=>by
   have hx:=h1 x (List.mem_cons_self ..)
   have hy:=h2 y (List.mem_cons_self ..)
   show (if f x y=0 then lisC f r s else f x y)<0↔0<(if f y x=0 then lisC f s r else f y x)
   by_cases e:f x y=0
   ·rw [if_pos e,if_pos (h.zero hx hy e)]
    exact lis_anti h r s (fun z hz=>h1 z (List.mem_cons_of_mem _ hz)) (fun z hz=>h2 z (List.mem_cons_of_mem _ hz))
   ·rw [if_neg e,if_neg (fun e2=>e (h.zero hy hx e2))]
    exact h.anti x y hx hy
theorem lis_trans (h:TriC P f):∀ l m n:List α,(∀ x∈l,P x)→(∀ x∈m,P x)→(∀ x∈n,P x)→lisC f l m≤0→lisC f m n≤0→lisC f l n≤0
 | [],_,n,_,_,_,_,_=>by
   cases n with
   | nil=>show sgn _ _≤0;rw [sgnT_le];simp
   | cons z t=>show sgn _ _≤0;rw [sgnT_le];omega
 | x::r,[],_,_,_,_,h1,_=>by
   have h2:sgn ((x::r).length:Int) 0≤0:=h1
   rw [sgnT_le,List.length_cons] at h2
   omega
 | _::_,y::s,[],_,_,_,_,h1=>by
   have h2:sgn ((y::s).length:Int) 0≤0:=h1
   rw [sgnT_le,List.length_cons] at h2
   omega
 | x::r,y::s,z::t,h1,h2,h3,k1,k2=>by
   have hx:=h1 x (List.mem_cons_self ..)
   have hy:=h2 y (List.mem_cons_self ..)
   have hz:=h3 z (List.mem_cons_self ..)
   have k1':(if f x y=0 then lisC f r s else f x y)≤0:=k1
   have k2':(if f y z=0 then lisC f s t else f y z)≤0:=k2
   show (if f x z=0 then lisC f r t else f x z)≤0
   by_cases e1:f x y=0
   ·rw [if_pos e1] at k1'
    by_cases e2:f y z=0
    ·rw [if_pos e2] at k2'
     rw [if_pos (h.eqs hx hy hz e1 e2)]
     exact lis_trans h r s t (fun w hw=>h1 w (List.mem_cons_of_mem _ hw)) (fun w hw=>h2 w (List.mem_cons_of_mem _ hw)) (fun w hw=>h3 w (List.mem_cons_of_mem _ hw)) k1' k2'
    ·rw [if_neg e2] at k2'
     have:=h.le_lt hx hy hz (by omega:f x y≤0) (by omega:f y z<0)
     rw [if_neg (by omega)]
     omega
   ·rw [if_neg e1] at k1'
    have e3:f y z≤0:=by
     by_cases e2:f y z=0
     ·omega
     ·rw [if_neg e2] at k2';exact k2'
    have:=h.lt_le hx hy hz (by omega:f x y<0) e3
    rw [if_neg (by omega)]
    omega
theorem tri_lis (h:TriC P f):TriC (fun l:List α=>∀ x∈l,P x) (lisC f):=⟨lis_anti h,lis_trans h⟩
end
theorem cmpS_ltT {a b:ByteArray}:cmpS a b<0↔a.data.toList<b.data.toList:=by rw [← cmpB_S];exact cmpB_lt _ _
theorem cmpS_gtT {a b:ByteArray}:0<cmpS a b↔b.data.toList<a.data.toList:=by
 unfold cmpS
 by_cases h1:a.data.toList<b.data.toList
 ·rw [if_pos h1]
  exact ⟨fun h=>absurd h (by decide),fun h=>absurd h (List.lt_asymm h1)⟩
 ·rw [if_neg h1]
  by_cases h2:b.data.toList<a.data.toList
  ·rw [if_pos h2];exact ⟨fun _=>h2,fun _=>by decide⟩
  ·rw [if_neg h2];exact ⟨fun h=>absurd h (by decide),fun h=>absurd h h2⟩
theorem cmpS_leT {a b:ByteArray}:cmpS a b≤0↔¬ b.data.toList<a.data.toList:=by
 rw [← cmpS_gtT]
 omega
theorem tri_S:TriC (fun _=>True) cmpS:=⟨fun a b _ _=>by rw [cmpS_ltT,cmpS_gtT],fun a b c _ _ _=>by
 rw [cmpS_leT,cmpS_leT,cmpS_leT,List.not_lt,List.not_lt,List.not_lt]
 exact fun h k=>List.le_trans h k⟩
theorem app_lt:∀ (x y z:List UInt8),x.length=y.length→(x++z<y++z↔x<y)
 | [],[],z,_=>⟨fun h=>absurd h (List.lt_irrefl _),fun h=>absurd h (List.lt_irrefl _)⟩
 | a::r,b::s,z,h=>by
   have ih:=app_lt r s z (by simpa using h)
   rw [List.cons_append,List.cons_append,List.cons_lt_cons_iff,List.cons_lt_cons_iff,ih]
theorem cmpS_pad {x y:ByteArray} (n:Nat) (h:x.size=y.size):cmpS (padS x n) (padS y n)=cmpS x y:=by
 have hx:(padS x n).data.toList=x.data.toList++(zerosS n).data.toList:=by unfold padS;simp
 have hy:(padS y n).data.toList=y.data.toList++(zerosS n).data.toList:=by unfold padS;simp
 have hl:x.data.toList.length=y.data.toList.length:=by rw [Array.length_toList,Array.length_toList];exact h
 unfold cmpS
 rw [hx,hy]
 simp only [app_lt _ _ _ hl,app_lt _ _ _ hl.symm]
theorem zerosS_add (m n:Nat):zerosS m++zerosS n=zerosS (m+n):=by
 apply ByteArray.ext
 rw [ByteArray.data_append]
 unfold zerosS
 have e:List.replicate m (48:Int)++List.replicate n 48=List.replicate (m+n) 48:=List.replicate_append_replicate
 rw [← e]
 unfold strOfNums
 simp
theorem padS_add (s:ByteArray) (m n:Nat):padS (padS s m) n=padS s (m+n):=by
 unfold padS
 rw [ByteArray.append_assoc,zerosS_add]
def keyM (d:DecD):Int:=if d.digits.size=0 then -1000 else d.digits.size+d.exp
def pad120 (d:DecD):ByteArray:=padS d.digits (120-d.digits.size)
theorem cmpS_self (a:ByteArray):cmpS a a=0:=by
 unfold cmpS
 rw [if_neg (List.lt_irrefl _),if_neg (List.lt_irrefl _)]
theorem magC_key {a b:DecD} (ha:VDec a) (hb:VDec b):magC a b=lexC (fun x y=>sgn (keyM x) (keyM y)) (fun x y=>cmpS (pad120 x) (pad120 y)) a b:=by
 have ga:a.digits.size=0∨(0<a.digits.size∧a.digits.size≤120∧-400≤a.exp∧a.exp≤400):=by
  rcases ha with h | h
  ·exact .inl h.1
  ·exact .inr ⟨h.1,h.2.1,h.2.2.2.2.2.1,h.2.2.2.2.2.2⟩
 have gb:b.digits.size=0∨(0<b.digits.size∧b.digits.size≤120∧-400≤b.exp∧b.exp≤400):=by
  rcases hb with h | h
  ·exact .inl h.1
  ·exact .inr ⟨h.1,h.2.1,h.2.2.2.2.2.1,h.2.2.2.2.2.2⟩
 unfold lexC
 rcases ga with a0 | ⟨a0,a1,a2,a3⟩<;>rcases gb with b0 | ⟨b0,b1,b2,b3⟩
 ·have ea:a.digits=b.digits:=by
   apply ByteArray.ext
   have h1:a.digits.data.size=0:=a0
   have h2:b.digits.data.size=0:=b0
   rw [Array.eq_empty_of_size_eq_zero h1,Array.eq_empty_of_size_eq_zero h2]
  have ek:keyM a=keyM b:=by unfold keyM;rw [if_pos a0,if_pos b0]
  simp only [ek,sgn_self,if_true]
  rw [magC_0 (.inl a0)]
  unfold lenC pad120
  rw [if_neg (by omega),if_neg (by omega),ea,cmpS_self,cmpS_self]
 ·have h:sgn (keyM a) (keyM b)<0:=by
   rw [sgnT_lt]
   unfold keyM
   rw [if_pos a0,if_neg (by omega)]
   omega
  have h2:sgn (keyM a) (keyM b)=-1:=by
   unfold sgn at h ⊢
   split at h
   ·rename_i h3;rw [if_pos h3]
   ·split at h<;>omega
  simp only [h2]
  rw [magC_0 (.inl a0)]
  unfold lenC
  rw [if_pos (by omega),if_neg (by decide)]
 ·have h:keyM b<keyM a:=by
   unfold keyM
   rw [if_pos b0,if_neg (by omega)]
   omega
  have h2:sgn (keyM a) (keyM b)=1:=by
   unfold sgn
   rw [if_neg (by omega),if_pos h]
  simp only [h2]
  rw [magC_0 (.inr b0)]
  unfold lenC
  rw [if_neg (by omega),if_pos (by omega),if_neg (by decide)]
 ·obtain ⟨r1,r2,r3⟩:=magC_ref (a:=a) (b:=b) (by omega) (by omega)
  have ka:keyM a=a.digits.size+a.exp:=by unfold keyM;rw [if_neg (by omega)]
  have kb:keyM b=b.digits.size+b.exp:=by unfold keyM;rw [if_neg (by omega)]
  simp only [ka,kb]
  rcases Int.lt_trichotomy ((a.digits.size:Int)+a.exp) (b.digits.size+b.exp) with h | h | h
  ·have h2:sgn ((a.digits.size:Int)+a.exp) (b.digits.size+b.exp)=-1:=by unfold sgn;rw [if_pos h]
   rw [h2,r1 h,if_neg (by decide)]
  ·have h2:sgn ((a.digits.size:Int)+a.exp) (b.digits.size+b.exp)=0:=sgn_0.2 h
   rw [h2,r3 h,if_pos rfl]
   have e1:padS a.digits (120-a.digits.size)=padS (padS a.digits (max a.digits.size b.digits.size-a.digits.size)) (120-max a.digits.size b.digits.size):=by
    rw [padS_add]
    congr 1
    omega
   have e2:padS b.digits (120-b.digits.size)=padS (padS b.digits (max a.digits.size b.digits.size-b.digits.size)) (120-max a.digits.size b.digits.size):=by
    rw [padS_add]
    congr 1
    omega
   unfold pad120
   rw [e1,e2,cmpS_pad _ (by rw [padS_size,padS_size];omega)]
   unfold lenC
   rw [if_neg (by rw [padS_size,padS_size];omega),if_neg (by rw [padS_size,padS_size];omega)]
  ·have h2:sgn ((a.digits.size:Int)+a.exp) (b.digits.size+b.exp)=1:=by unfold sgn;rw [if_neg (by omega),if_pos h]
   rw [h2,r2 h,if_neg (by decide)]
theorem tri_mag:TriC VDec magC:=by
 have h:TriC VDec (lexC (fun x y:DecD=>sgn (keyM x) (keyM y)) (fun x y=>cmpS (pad120 x) (pad120 y))):=(tri_sgn.on keyM fun _ _=>trivial).lex (tri_S.on pad120 fun _ _=>trivial)
 exact ⟨fun a b ha hb=>by rw [magC_key ha hb,magC_key hb ha];exact h.anti a b ha hb,fun a b c ha hb hc=>by rw [magC_key ha hb,magC_key hb hc,magC_key ha hc];exact h.trans a b c ha hb hc⟩
theorem tri_dec:TriC VDec decC:=by
 constructor
 ·intro a b ha hb
  unfold decC
  cases a.neg<;>cases b.neg<;>simp
  ·exact tri_mag.anti a b ha hb
  ·exact tri_mag.anti b a hb ha
 ·intro a b c ha hb hc
  unfold decC
  cases a.neg<;>cases b.neg<;>cases c.neg<;>simp
  ·exact tri_mag.trans a b c ha hb hc
  ·exact fun h k=>tri_mag.trans c b a hc hb ha k h
theorem tri_tim:TriC (fun _=>True) timC:=by
 have h:TriC (fun _:TimeD=>True) (lexC (fun x y=>sgn x.kind y.kind) (lexC (lexC (fun x y=>sgn (dayT x) (dayT y)) (fun x y=>sgn (nanT x) (nanT y))) (fun x y=>sgn x.offset y.offset))) :=
  (tri_sgn.on _ fun _ _=>trivial).lex (((tri_sgn.on _ fun _ _=>trivial).lex (tri_sgn.on _ fun _ _=>trivial)).lex (tri_sgn.on _ fun _ _=>trivial))
 exact h
theorem tri_map {P:ValD→Prop} {f:ValD→ValD→Int} (h:TriC P f):TriC (fun l:List (ByteArray×ValD)=>∀ x∈l,P x.2) (mapC f):=by
 have h2:TriC (fun l:List (ByteArray×ValD)=>∀ x∈l,P x.2) (lexC (fun x y=>lisC cmpS (keysF x) (keysF y)) (fun x y=>lisC f (valsF x) (valsF y))) :=
  ((tri_lis tri_S).on keysF fun _ _ _ _=>trivial).lex ((tri_lis h).on valsF fun l hl x hx=>by
    unfold valsF at hx
    obtain ⟨y,hy,rfl⟩:=List.mem_map.1 hx
    exact hl y ((sortF_perm l).mem_iff.1 hy))
 exact h2
def cmpK (m:Nat) (k:Int) (a b:ValD):Int :=
 if k=1 then bI a.bool-bI b.bool else if k=2 then decC a.num b.num else if k=3 then timC a.time b.time else
 if k=4 then cmpS a.text b.text else if k=5 then lisC sgn a.bytes b.bytes else if k=6 then lisC (cmpD m) a.list b.list else if k=7 then mapC (cmpD m) a.fields b.fields else 0
theorem tri_K {m:Nat} (ih:TriC (okC m) (cmpD m)) (k:Int):TriC (okC (m+1)) (cmpK m k):=by
 by_cases h1:k=1
 ·have e:cmpK m k=fun a b=>bI a.bool-bI b.bool:=by funext a b;unfold cmpK;rw [if_pos h1]
  rw [e]
  exact ⟨fun a b _ _=>by omega,fun a b c _ _ _=>by omega⟩
 by_cases h2:k=2
 ·have e:cmpK m k=fun a b=>decC a.num b.num:=by funext a b;unfold cmpK;rw [if_neg h1,if_pos h2]
  rw [e]
  exact tri_dec.on _ fun x hx=>hx.2.1
 by_cases h3:k=3
 ·have e:cmpK m k=fun a b=>timC a.time b.time:=by funext a b;unfold cmpK;rw [if_neg h1,if_neg h2,if_pos h3]
  rw [e]
  exact tri_tim.on _ fun x hx=>trivial
 by_cases h4:k=4
 ·have e:cmpK m k=fun a b=>cmpS a.text b.text:=by funext a b;unfold cmpK;rw [if_neg h1,if_neg h2,if_neg h3,if_pos h4]
  rw [e]
  exact tri_S.on _ fun x hx=>trivial
 by_cases h5:k=5
 ·have e:cmpK m k=fun a b=>lisC sgn a.bytes b.bytes:=by funext a b;unfold cmpK;rw [if_neg h1,if_neg h2,if_neg h3,if_neg h4,if_pos h5]
  rw [e]
  exact (tri_lis tri_sgn).on _ fun _ _ _ _=>trivial
 by_cases h6:k=6
 ·have e:cmpK m k=fun a b=>lisC (cmpD m) a.list b.list:=by funext a b;unfold cmpK;rw [if_neg h1,if_neg h2,if_neg h3,if_neg h4,if_neg h5,if_pos h6]
  rw [e]
  exact (tri_lis ih).on _ fun x hx=>hx.2.2.2.2.2.1
 by_cases h7:k=7
 ·have e:cmpK m k=fun a b=>mapC (cmpD m) a.fields b.fields:=by funext a b;unfold cmpK;rw [if_neg h1,if_neg h2,if_neg h3,if_neg h4,if_neg h5,if_neg h6,if_pos h7]
  rw [e]
  exact (tri_map ih).on _ fun x hx=>hx.2.2.2.2.2.2
 ·have e:cmpK m k=fun a b=>0:=by funext a b;unfold cmpK;rw [if_neg h1,if_neg h2,if_neg h3,if_neg h4,if_neg h5,if_neg h6,if_neg h7]
  rw [e]
  exact ⟨fun a b _ _=>by omega,fun a b c _ _ _ h _=>h⟩
theorem cmpD_ne {m:Nat} {a b:ValD} (h:a.kind≠b.kind):cmpD (m+1) a b=sgn a.kind b.kind:=by
 unfold cmpD
 rw [if_pos h]
theorem cmpD_K {m:Nat} {a b:ValD} (h:a.kind=b.kind):cmpD (m+1) a b=cmpK m a.kind a b:=by
 unfold cmpD cmpK
 rw [if_neg (fun h2=>h2 h)]
theorem tri_D:∀ m:Nat,TriC (okC m) (cmpD m)
 | 0=>⟨fun _ _ h=>h.elim,fun _ _ _ h=>h.elim⟩
 | m+1=>by
   have ih:=tri_D m
   constructor
   ·intro a b ha hb
    by_cases e:a.kind=b.kind
    ·rw [cmpD_K e,cmpD_K e.symm,e]
     exact (tri_K ih b.kind).anti a b ha hb
    ·rw [cmpD_ne e,cmpD_ne (fun h=>e h.symm),sgnT_lt,sgnT_gt]
   ·intro a b c ha hb hc h1 h2
    by_cases e1:a.kind=b.kind
    ·by_cases e2:b.kind=c.kind
     ·rw [cmpD_K e1] at h1
      rw [cmpD_K e2,← e1] at h2
      rw [cmpD_K (e1.trans e2)]
      exact (tri_K ih a.kind).trans a b c ha hb hc h1 h2
     ·rw [cmpD_ne e2,sgnT_le] at h2
      rw [cmpD_ne (by omega),sgnT_le]
      omega
    ·rw [cmpD_ne e1,sgnT_le] at h1
     have h3:b.kind≤c.kind:=by
      by_cases e2:b.kind=c.kind
      ·omega
      ·rw [cmpD_ne e2,sgnT_le] at h2
       exact h2
     rw [cmpD_ne (by omega),sgnT_le]
     omega
end Go.Proofs.YtagkjofpncpcpaaGreatDoor

/- A stable order of places: the order of things, then that of their places; the rank of a thing (plain). -/
namespace Go.Proofs.YtagkjofpncpcpaaGreatDoor
open Stb
section
variable {f:Nat→Nat→Int}
def leT (f:Nat→Nat→Int) (i j:Nat):Prop:=f i j<0∨(f i j=0∧i≤j)
theorem TriC.same (h:TriC (fun _=>True) f) (i:Nat):f i i=0:=by
 have:=h.anti i i trivial trivial
 omega
theorem ord_T (h:TriC (fun _=>True) f):Ord (leT f):=by
 constructor
 ·intro x y z h1 h2
  unfold leT at *
  rcases h1 with h1 | ⟨h1,h1'⟩
  ·left
   exact h.lt_le trivial trivial trivial h1 (by omega)
  ·rcases h2 with h2 | ⟨h2,h2'⟩
   ·left
    exact h.le_lt trivial trivial trivial (by omega:f x y≤0) h2
   ·right
    exact ⟨h.eqs trivial trivial trivial h1 h2,by omega⟩
 ·intro x y
  unfold leT
  have h1:=h.anti x y trivial trivial
  have h2:=h.anti y x trivial trivial
  by_cases h3:f x y=0
  ·have h4:=h.zero trivial trivial h3
   omega
  ·omega
theorem leT_anti (h:TriC (fun _=>True) f) {i j:Nat} (h1:leT f i j) (h2:leT f j i):i=j:=by
 have h3:=h.anti i j trivial trivial
 have h4:=h.anti j i trivial trivial
 unfold leT at *
 omega
theorem leT_lt (h:TriC (fun _=>True) f) {i j:Nat} (hij:i<j):leT f i j↔¬ f j i<0:=by
 have h3:=h.anti i j trivial trivial
 have h4:=h.anti j i trivial trivial
 unfold leT
 omega
theorem perm_range {n:Nat} {g:Nat→Nat} (hp:PermOn 0 n id g):List.Perm ((List.range n).map g) (List.range n):=by
 obtain ⟨s,t,h1,h2,h3,h4⟩:=hp
 have hg:∀ k,t (g k)=k:=fun k=>by
  rw [h4]
  exact (h2 k).1
 rw [List.perm_ext_iff_of_nodup]
 ·intro a
  constructor
  ·intro ha
   obtain ⟨k,hk,rfl⟩:=List.mem_map.1 ha
   rw [List.mem_range] at hk ⊢
   rw [h4]
   exact (h1 k (Nat.zero_le _) hk).1.2
  ·intro ha
   rw [List.mem_range] at ha
   exact List.mem_map.2 ⟨t a,List.mem_range.2 (h1 a (Nat.zero_le _) ha).2.2,by rw [h4];exact (h2 a).2⟩
 ·have h0:List.Pairwise (fun a b=>a≠b) (List.range n):=List.nodup_range
  exact List.pairwise_map.2 (h0.imp fun h e=>h (by
   have:=congrArg t e
   rw [hg,hg] at this
   exact this))
 ·exact List.nodup_range
theorem count_lt (p:Nat):∀ n:Nat,(List.range n).countP (fun k=>decide (k<p))=min n p
 | 0=>by simp
 | n+1=>by
   rw [List.range_succ,List.countP_append,count_lt p n,List.countP_singleton]
   by_cases h:n<p
   ·rw [if_pos (by simpa using h)];omega
   ·rw [if_neg (by simpa using h)];omega
def rankB (f:Nat→Nat→Int) (k i:Nat):Bool:=decide (f k i<0∨(f k i=0∧k<i))
theorem rankB_iff {k i:Nat}:rankB f k i=true↔(f k i<0∨(f k i=0∧k<i)):=by unfold rankB;simp
theorem rank {n p:Nat} {g:Nat→Nat} (h:TriC (fun _=>True) f) (hp:PermOn 0 n id g) (hs:SortedOn (leT f) g 0 n) (hpn:p<n):(List.range n).countP (fun k=>rankB f k (g p))=p:=by
 have hinj:∀ i j,g i=g j→i=j:=by
  obtain ⟨s,t,h1,h2,h3,h4⟩:=hp
  intro i j e
  have e2:=congrArg t e
  rw [h4,h4] at e2
  have a:=(h2 i).1
  have b:=(h2 j).1
  exact a.symm.trans (e2.trans b)
 rw [← (perm_range hp).countP_eq,List.countP_map]
 have e:(List.range n).countP ((fun k=>rankB f k (g p)) ∘ g)=(List.range n).countP (fun q=>decide (q<p)):=by
  apply List.countP_congr
  intro q hq
  rw [List.mem_range] at hq
  show rankB f (g q) (g p)=true↔decide (q<p)=true
  rw [rankB_iff,decide_eq_true_eq]
  constructor
  ·intro hb
   by_cases c:q<p
   ·exact c
   ·exfalso
    rcases Nat.lt_or_ge p q with c2 | c2
    ·have h5:=hs p q (Nat.zero_le _) c2 hq
     have h6:leT f (g q) (g p):=by unfold leT;omega
     have:=hinj _ _ (leT_anti h h5 h6)
     omega
    ·have:q=p:=by omega
     subst this
     have:=h.same (g q)
     omega
  ·intro c
   have h5:=hs q p (Nat.zero_le _) c hpn
   unfold leT at h5
   have h6:g q≠g p:=fun e=>by have:=hinj _ _ e;omega
   omega
 rw [e,count_lt]
 omega
theorem sorted_id {n p:Nat} {g:Nat→Nat} (h:TriC (fun _=>True) f) (hp:PermOn 0 n id g) (hs:SortedOn (leT f) g 0 n) (ho:∀ i j,i<j→j<n→f i j≤0) (hpn:p<n):g p=p:=by
 have h1:=rank h hp hs hpn
 have hg:g p<n:=by
  obtain ⟨j,_,hj,e⟩:=hp.mem (Nat.zero_le p) hpn
  rw [e]
  exact hj
 have e:(List.range n).countP (fun k=>rankB f k (g p))=(List.range n).countP (fun q=>decide (q<g p)):=by
  apply List.countP_congr
  intro k hk
  rw [List.mem_range] at hk
  rw [rankB_iff,decide_eq_true_eq]
  constructor
  ·intro hb
   rcases Nat.lt_trichotomy k (g p) with c | c | c
   ·exact c
   ·rw [c] at hb
    have:=h.same (g p)
    omega
   ·have h3:=ho (g p) k c hk
    have h4:=h.anti (g p) k trivial trivial
    have h5:=h.anti k (g p) trivial trivial
    omega
  ·intro c
   have h3:=ho k (g p) c hg
   omega
 rw [e,count_lt] at h1
 omega
theorem rank_place {n i:Nat} {g:Nat→Nat} (hp:PermOn 0 n id g) (hi:i<n):∃ p,p<n∧g p=i:=by
 obtain ⟨s,t,h1,h2,h3,h4⟩:=hp
 exact ⟨t i,(h1 i (Nat.zero_le _) hi).2.2,by rw [h4];exact (h2 i).2⟩
theorem rankB_step (k i:Nat):(List.range (k+1)).countP (fun q=>rankB f q i)=(List.range k).countP (fun q=>rankB f q i)+(if rankB f k i=true then 1 else 0):=by
 rw [List.range_succ,List.countP_append,List.countP_singleton]
end
end Go.Proofs.YtagkjofpncpcpaaGreatDoor

/- Rows of thirteen cells (a value) that lie side by side in a block of their own, in an order of theirs. -/
namespace Go.Proofs.YtagkjofpncpcpaaGreatDoor
open Go.RowKit Stb
theorem foldl_len13:∀ (l:List Nat) (f:Nat→List Value),(∀ k∈l,(f k).length=13)→(l.flatMap f).length=l.length * 13
 | [],_,_=>rfl
 | a::r,f,h=>by
   rw [List.flatMap_cons,List.length_append,h a (List.mem_cons_self ..),foldl_len13 r f (fun k hk=>h k (List.mem_cons_of_mem _ hk)),List.length_cons]
   omega
def flatV (n:Nat) (f:Nat→List Value):List Value:=(List.range n).flatMap f
theorem flatV_s (n:Nat) (f:Nat→List Value):flatV (n+1) f=flatV n f++f n:=by
 unfold flatV
 rw [List.range_succ,List.flatMap_append,List.flatMap_cons,List.flatMap_nil,List.append_nil]
theorem flatV_len {n:Nat} {f:Nat→List Value} (h:∀ k,k<n→(f k).length=13):(flatV n f).length=n * 13:=by
 unfold flatV
 rw [foldl_len13 _ _ (fun k hk=>h k (List.mem_range.1 hk)),List.length_range]
theorem flatV_get:∀ {n:Nat} {f:Nat→List Value},(∀ k,k<n→(f k).length=13)→∀ {i j:Nat},i<n→j<13→(flatV n f)[i * 13+j]?=(f i)[j]?
 | 0,_,_,_,_,hi,_=>by omega
 | n+1,f,h,i,j,hi,hj=>by
   have hl:=flatV_len (n:=n) (f:=f) (fun k hk=>h k (by omega))
   rw [flatV_s]
   rcases Nat.lt_or_ge i n with h1 | h1
   ·rw [List.getElem?_append_left (by omega)]
    exact flatV_get (fun k hk=>h k (by omega)) h1 hj
   ·obtain rfl:i=n:=by omega
    rw [List.getElem?_append_right (by omega),hl]
    congr 1
    omega
theorem flatV_out {n k:Nat} {f:Nat→List Value} (h:∀ k,k<n→(f k).length=13) (hk:n * 13≤k):(flatV n f)[k]?=none:=by
 rw [List.getElem?_eq_none]
 rw [flatV_len h]
 exact hk
def updV (f:Nat→List Value) (i:Nat) (r:List Value):Nat→List Value:=fun k=>if k=i then r else f k
theorem swap_updV (f:Nat→List Value) (i j:Nat):swap f i j=updV (updV f i (f j)) j (f i):=by
 funext k
 unfold swap updV
 by_cases h1:k=i
 ·by_cases h2:k=j
  ·subst h1
   subst h2
   simp
  ·simp [h1]
   intro h3
   exact absurd (h1.trans h3) h2
 ·by_cases h2:k=j
  ·simp [h2]
   intro h3
   rw [h3]
  ·simp [h1,h2]
theorem updV_len {n i:Nat} {f:Nat→List Value} {r:List Value} (h:∀ k,k<n→(f k).length=13) (hr:r.length=13):∀ k,k<n→(updV f i r k).length=13:=fun k hk=>by
 unfold updV
 split
 ·exact hr
 ·exact h k hk
theorem flatV_set {n i:Nat} {f:Nat→List Value} {r tl:List Value} (h:∀ k,k<n→(f k).length=13) (hr:r.length=13) (hi:i<n):flatV n (updV f i r)++tl=(flatV n f++tl).take (i * 13)++r++(flatV n f++tl).drop (i * 13+r.length):=by
 have h2:=updV_len (i:=i) h hr
 have l1:=flatV_len h
 have l2:=flatV_len h2
 have hin:i * 13+13≤n * 13:=by have:=Nat.mul_le_mul_right 13 (show i+1≤n by omega);omega
 apply List.ext_getElem?
 intro q
 rw [hr]
 by_cases hq:q<n * 13
 ·have e:q=q / 13 * 13+q % 13:=by omega
  have hq1:q / 13<n:=by omega
  have hq2:q % 13<13:=by omega
  rw [List.getElem?_append_left (by omega)]
  by_cases c1:q<i * 13
  ·rw [List.append_assoc,List.getElem?_append_left (by rw [List.length_take,List.length_append];omega),List.getElem?_take,if_pos c1,List.getElem?_append_left (by omega),e,flatV_get h2 hq1 hq2,flatV_get h hq1 hq2]
   unfold updV
   rw [if_neg (by omega)]
  by_cases c2:q<i * 13+13
  ·rw [List.getElem?_append_left (by rw [List.length_append,List.length_take,List.length_append];omega),List.getElem?_append_right (by rw [List.length_take,List.length_append];omega),e,flatV_get h2 hq1 hq2]
   unfold updV
   rw [if_pos (by omega),List.length_take,List.length_append]
   congr 1
   omega
  ·rw [List.getElem?_append_right (by rw [List.length_append,List.length_take,List.length_append];omega),List.getElem?_drop,List.length_append,List.length_take,List.length_append,hr]
   rw [show i * 13+13+(q-(min (i * 13) ((flatV n f).length+tl.length)+13))=q by omega,List.getElem?_append_left (by omega),e,flatV_get h2 hq1 hq2,flatV_get h hq1 hq2]
   unfold updV
   rw [if_neg (by omega)]
 ·rw [List.getElem?_append_right (by omega),List.getElem?_append_right (by rw [List.length_append,List.length_take,List.length_append];omega),List.getElem?_drop,List.length_append,List.length_take,List.length_append,hr]
  rw [show i * 13+13+(q-(min (i * 13) ((flatV n f).length+tl.length)+13))=q by omega,List.getElem?_append_right (by omega),l1,l2]
structure RowsV (w:World) (b n:Nat) (f:Nat→List Value) (tl:List Value):Prop where
 row:RowT 30 w b (flatV n f++tl)
 len:∀ k,k<n→(f k).length=13
 one:∀ k,k<n→∀ v∈f k,v.oneCell'=true
theorem RowsV.range {w:World} {b n i:Nat} {f:Nat→List Value} {tl:List Value} (h:RowsV w b n f tl) (hi:i<n):w.rangeAt b (i * 13) (f i):=fun j v hv=>by
 have hj:j<13:=by rw [← h.len i hi];exact (List.getElem?_eq_some_iff.1 hv).1
 have hin:i * 13+13≤n * 13:=by have:=Nat.mul_le_mul_right 13 (show i+1≤n by omega);omega
 refine h.row.cell ?_
 rw [List.getElem?_append_left (by rw [flatV_len h.len];omega),flatV_get h.len hi hj,hv]
theorem RowsV.put {w:World} {b n i:Nat} {r:List Value} {f:Nat→List Value} {tl:List Value} (h:RowsV w b n f tl) (hl:r.length=13) (h1:∀ v∈r,v.oneCell'=true):RowsV (w.setRow b (flatV n (updV f i r)++tl).toArray) b n (updV f i r) tl:=by
 refine ⟨h.row.setRow _,updV_len h.len hl,fun k hkn=>?_⟩
 unfold updV
 split
 ·exact h1
 ·exact h.one k hkn
theorem RowsV.swapped {w:World} {b n i j:Nat} {f:Nat→List Value} {tl:List Value} (h:RowsV w b n f tl) (hi:i<n) (hj:j<n) :
 RowsV ((w.setRow b (flatV n (updV f i (f j))++tl).toArray).setRow b (flatV n (updV (updV f i (f j)) j (f i))++tl).toArray) b n (swap f i j) tl:=by
 rw [swap_updV]
 exact (h.put (h.len j hj) (h.one j hj)).put (h.len i hi) (h.one i hi)
theorem fit13 {n i:Nat} {f:Nat→List Value} {r tl:List Value} (h:∀ k,k<n→(f k).length=13) (hr:r.length=13) (hi:i<n):i * 13+r.length≤(flatV n f++tl).length:=by
 have hin:i * 13+13≤n * 13:=by have:=Nat.mul_le_mul_right 13 (show i+1≤n by omega);omega
 rw [List.length_append,flatV_len h,hr]
 omega
theorem sizeV13 {r:List Value} (h:r.length=13):(Tryz.prog.info? 30).map (·.size)=some r.length:=by rw [h];kernel_rfl
theorem FB.swappedV {pb:Nat} {a w:World} (h:FB pb a w) (n:Nat) (f:Nat→List Value) (tl:List Value) (i j:Nat) :
 FB pb a ((w.setRow pb (flatV n (updV f i (f j))++tl).toArray).setRow pb (flatV n (updV (updV f i (f j)) j (f i))++tl).toArray):=(h.trans (FB.setRow _)).trans (FB.setRow _)
def RowsX (R:Nat→List Value) (w:World) (b n:Nat) (g:Nat→Nat) (tl:List Value):Prop:=RowsV w b n (fun i'=>R (g i')) tl
section
variable {R:Nat→List Value} {w w':World} {b n i j:Nat} {g:Nat→Nat} {tl:List Value}
theorem RowsX.row (h:RowsX R w b n g tl):RowT 30 w b (flatV n (fun i'=>R (g i'))++tl):=RowsV.row h
theorem RowsX.len (h:RowsX R w b n g tl):∀ k,k<n→(R (g k)).length=13:=RowsV.len h
theorem RowsX.one (h:RowsX R w b n g tl):∀ k,k<n→∀ v∈R (g k),v.oneCell'=true:=RowsV.one h
theorem RowsX.range (h:RowsX R w b n g tl) (hi:i<n):w.rangeAt b (i * 13) (R (g i)):=RowsV.range h hi
theorem RowsX.put (h:RowsX R w b n g tl) (_hi:i<n) (hj:j<n):RowsV (w.setRow b (flatV n (updV (fun i'=>R (g i')) i (R (g j)))++tl).toArray) b n (updV (fun i'=>R (g i')) i (R (g j))) tl:=RowsV.put h (h.len j hj) (h.one j hj)
theorem RowsX.swapped (h:RowsX R w b n g tl) (hi:i<n) (hj:j<n) :
 RowsX R ((w.setRow b (flatV n (updV (fun i'=>R (g i')) i (R (g j)))++tl).toArray).setRow b (flatV n (updV (updV (fun i'=>R (g i')) i (R (g j))) j (R (g i)))++tl).toArray) b n (swap g i j) tl:=by
 have h2:=RowsV.swapped h hi hj
 have e:swap (fun i'=>R (g i')) i j=fun i'=>R (swap g i j i'):=by
  funext k
  unfold swap
  repeat' split
  all_goals rfl
 rw [e] at h2
 exact h2
theorem RowsX.drew (h:RowsX R w b n g tl):RowsX R w.drew b n g tl:=⟨(RowsX.row h).drew,RowsX.len h,RowsX.one h⟩
theorem RowsX.fb (h:RowsX R w b n g tl) (hb:Below w.heap.size w w'):RowsX R w' b n g tl:=⟨(RowsX.row h).then hb,RowsX.len h,RowsX.one h⟩
end
def SrtV (R:Nat→List Value) (pb n:Nat) (tl:List Value) (P:(Nat→Nat)→Prop) (w:World) (e:Ending) (w':World):Prop:=e=.returned (.tuple #[])∧FB pb w w'∧∃ g,RowsX R w' pb n g tl∧P g
def CmpH (R:Nat→List Value) (F:Nat→Nat→Int) (pb fb:Nat) (w0:World):Prop:=∀ (i j:Nat) (u:World),FB pb w0 u→Calls Tryz.prog 147 #[.agg (R i).toArray,.agg (R j).toArray,.pointer (some ⟨fb,0,none⟩)] u (fun e u'=>e=.returned (.int .i64 (F i j))∧Below u.heap.size u u')
section
variable {F:Nat→Nat→Int} {i j:Nat} {x:Int}
theorem leV_no (HT:TriC (fun _=>True) F) (t:i<j) (h:x=F j i) (hx:¬ x<0):leT F i j:=(leT_lt HT t).2 (by rw [← h];exact hx)
theorem leV_yes (HT:TriC (fun _=>True) F) (t:i<j) (h:x=F j i) (hx:x<0):¬ leT F i j:=fun hl=>(leT_lt HT t).1 hl (by rw [← h];exact hx)
end
theorem dn1_tags {g0:Nat→Nat} {a b i j:Nat} (haj:a≤j) (hji:j≤i) (T:∀ x y,a≤x→x<y→i≤y→y<b→g0 x<g0 y) {x y:Nat} (h4:a≤x) (h5:x<y) (h6:i+1≤y) (h7:y<b):dn1 g0 j i x<dn1 g0 j i y:=by
 have e:dn1 g0 j i y=g0 y:=by unfold dn1;rw [if_neg (by omega),if_neg (by omega)]
 rw [e]
 unfold dn1
 split
 ·exact T _ _ (by omega) (by omega) (by omega) h7
 ·split
  ·exact T _ _ (by omega) (by omega) (by omega) h7
  ·exact T _ _ h4 h5 (by omega) h7
end Go.Proofs.YtagkjofpncpcpaaGreatDoor
