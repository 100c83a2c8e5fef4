/- Valid texts, lists of them: no program here. -/
import Derived.Test.YtagkjofpncpcpaaGreatDoorProg
import Derived.Test.YtagkjofpncpcpaaGreatDoorGA
import Derived.Test.YtagkjofpncpcpaaGreatDoorGB
import Derived.Test.YtagkjofpncpcpaaGreatDoorUtf8D
import Derived.Test.YtagkjofpncpcpaaGreatDoorGF
import Derived.Test.YtagkjofpncpcpaaGreatDoorXK
import Derived.Test.YtagkjofpncpcpaaGreatDoorAH
import Derived.Lib.IndexMore
namespace Go.Proofs.YtagkjofpncpcpaaGreatDoor
open Go.RowKit
theorem d0:decB ⟨false,⟨#[]⟩,0⟩ ⟨false,⟨#[]⟩,0⟩=true:=by simp [decB]
theorem t0:timeB ⟨0,0,0,0⟩ ⟨0,0,0,0⟩=true:=by decide
theorem v0:vdecB ⟨false,⟨#[]⟩,0⟩=true:=by decide
theorem text_one {s:ByteArray} (hv:validS s=true) (hs:s.size≤65536):oneE (textD s)=0:=by
 have h1:ownB (textD s)=true:=by
  unfold ownB
  rw [decide_eq_true_eq]
  refine ⟨show (0:Int)≤4 by decide,show (4:Int)≤7 by decide,fun _=>rfl,fun _=>d0,fun _=>t0,fun h=>absurd rfl h,fun _=>rfl,fun _=>rfl,fun _=>rfl⟩
 have h2:vdecB (textD s).num=true:=v0
 unfold oneE
 rw [if_neg (by rw [h1];decide),if_neg (by rw [h2];rintro (h | ⟨h,_⟩);· cases h
                                           ·cases h),if_neg (by show ¬ validS s=false;rw [hv];decide),if_neg (by show ¬ (65536<s.size∨65536<0);omega)]
 rfl
end Go.Proofs.YtagkjofpncpcpaaGreatDoor

/- A valid text split at a valid one: the parts are valid, and joined again they are the text. No program here. -/
namespace Go.Proofs.YtagkjofpncpcpaaGreatDoor
open Go.RowKit
theorem Run.at {s:ByteArray} {a b:Nat} (h:Run s a b):∀ {q:Nat},a≤q→q≤b→(q=b∨byteAt s q<128∨192≤byteAt s q)→Run s a q∧Run s q b:=by
 induction h with
 | nil a =>
   intro q h1 h2 _
   obtain rfl:q=a:=by omega
   exact ⟨Run.nil _,Run.nil _⟩
 | @cons a b h0 t ih =>
   intro q h1 h2 hq
   by_cases he:q=a
   ·subst he
    exact ⟨Run.nil _,Run.cons h0 t⟩
   ·obtain ⟨_,_,_,hin⟩:=charAt_parts h0
    have hle:=t.le
    by_cases hlt:q<a+charAt s a
    ·exfalso
     have:=hin (q-a) (by omega) (by omega)
     rw [show a+(q-a)=q by omega] at this
     omega
    ·obtain ⟨r1,r2⟩:=ih (q:=q) (by omega) h2 hq
     exact ⟨Run.cons h0 r1,r2⟩
theorem Run.step {s:ByteArray} {a b:Nat} (h:Run s a b) (hlt:a<b):charAt s a≠0∧Run s (a+charAt s a) b:=by
 cases h with
 | nil=>omega
 | cons g t=>exact ⟨g,t⟩
end Go.Proofs.YtagkjofpncpcpaaGreatDoor

/- Two valid texts one behind the other are a valid text: no program here. -/
namespace Go.Proofs.YtagkjofpncpcpaaGreatDoor
open Go.RowKit
theorem conts_congr {s t:ByteArray} {p q:Nat} {c:Int}:∀ (k:Nat),(∀ j,1≤j→j≤k→byteAt s (p+j)=byteAt t (q+j))→conts s p c k=conts t q c k
 | 0,_=>rfl
 | k+1,h=>by
   simp only [conts]
   rw [conts_congr k (fun j h1 h2=>h j h1 (by omega)),h (k+1) (by omega) (Nat.le_refl _)]
theorem charAt_congr {s t:ByteArray} {p q:Nat} (h0:charAt t q≠0) (hb:∀ j,j<charAt t q→byteAt s (p+j)=byteAt t (q+j)) (hs:p+charAt t q≤s.size):charAt s p=charAt t q:=by
 obtain ⟨e,hsz,_,_⟩:=charAt_parts h0
 have hn:(lead (byteAt t q)).1≠0:=by rw [← e];exact h0
 have hbyte:byteAt s p=byteAt t q:=by simpa using hb 0 (by omega)
 rw [e] at hb hs hsz
 have hc:=conts_congr (s:=s) (t:=t) (p:=p) (q:=q) (c:=(lead (byteAt t q)).2.2) ((lead (byteAt t q)).1-1) (fun j _ h2=>hb j (by omega))
 unfold charAt
 rw [hbyte,hc,if_neg (show ¬ ((lead (byteAt t q)).1=0∨s.size<p+(lead (byteAt t q)).1) by omega),if_neg (show ¬ ((lead (byteAt t q)).1=0∨t.size<q+(lead (byteAt t q)).1) by omega)]
theorem byteAt_left (s t:ByteArray) {p:Nat} (h:p<s.size):byteAt (s++t) p=byteAt s p:=by
 unfold byteAt
 rw [ByteArray.data_append,Array.toList_append,List.getElem?_append_left (by simpa using h)]
theorem byteAt_right (s t:ByteArray) (p:Nat):byteAt (s++t) (s.size+p)=byteAt t p:=by
 unfold byteAt
 rw [ByteArray.data_append,Array.toList_append,List.getElem?_append_right (by rw [Array.length_toList];exact Nat.le_add_right _ _)]
 rw [Array.length_toList,show s.size+p-s.data.size=p by show s.size+p-s.size=p;omega]
theorem Run.left {s t:ByteArray} {a b:Nat} (h:Run s a b) (hb:b≤s.size):Run (s++t) a b:=by
 induction h with
 | nil=>exact Run.nil _
 | @cons a b h0 r ih =>
   have hle:=r.le
   have e:charAt (s++t) a=charAt s a:=charAt_congr h0 (fun j hj=>byteAt_left s t (by omega)) (by rw [ByteArray.size_append];omega)
   exact Run.cons (by rw [e];exact h0) (by rw [e];exact ih hb)
theorem Run.right {s t:ByteArray} {a b:Nat} (h:Run t a b) (hb:b≤t.size):Run (s++t) (s.size+a) (s.size+b):=by
 induction h with
 | nil=>exact Run.nil _
 | @cons a b h0 r ih =>
   have hle:=r.le
   have e:charAt (s++t) (s.size+a)=charAt t a:=charAt_congr h0 (fun j hj=>by rw [Nat.add_assoc];exact byteAt_right s t _) (by rw [ByteArray.size_append];omega)
   refine Run.cons (by rw [e];exact h0) ?_
   rw [e,Nat.add_assoc]
   exact ih hb
theorem Run.trans {s:ByteArray} {a b c:Nat} (h:Run s a b) (k:Run s b c):Run s a c:=by
 induction h with
 | nil=>exact k
 | cons h0 _ ih=>exact Run.cons h0 (ih k)
end Go.Proofs.YtagkjofpncpcpaaGreatDoor
