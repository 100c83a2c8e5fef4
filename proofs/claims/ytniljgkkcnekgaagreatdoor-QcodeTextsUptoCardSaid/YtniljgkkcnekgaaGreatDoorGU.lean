/- Valid UTF-8, as a function of the bytes: no program here. -/
import Derived.Test.YtniljgkkcnekgaaGreatDoorProg
import Derived.Test.YtniljgkkcnekgaaGreatDoorGA
import Derived.Lib.DecodeN
import Derived.Lib.ValidLaws
import Derived.Lib.RuneCountTail
import Derived.WalkKit
import Derived.WalkSpells
import Derived.WalkLawsBesides
import Derived.LoopTactic
import Derived.BigQuiet
import Derived.Deep.QuietTactic
namespace Go.Proofs.YtniljgkkcnekgaaGreatDoor
open Go.RowKit
def byteAt (s:ByteArray) (i:Nat):Int:=((s.data.toList[i]?).getD 0).toNat
theorem byteAt_eq (s:ByteArray) (i:Nat) (h:i<s.size):(s[i].toNat:Int)=byteAt s i:=by
 have h':i<s.data.toList.length:=by simpa using h
 unfold byteAt
 rw [List.getElem?_eq_getElem h']
 rfl
theorem byteAt_range (s:ByteArray) (i:Nat):0≤byteAt s i∧byteAt s i≤255:=by
 unfold byteAt
 have:=((s.data.toList[i]?).getD 0).toNat_lt
 omega
def lead (a:Int):Nat×Int×Int:=if a<128 then (1,0,a) else if 194≤a∧a<224 then (2,128,a-192) else if 224≤a∧a<240 then (3,2048,a-224) else if 240≤a∧a<245 then (4,65536,a-240) else (0,0,0)
def conts (s:ByteArray) (p:Nat) (c:Int):Nat→Option Int
 | 0=>some c
 | k+1=>match conts s p c k with
   | none=>none
   | some d=>if 128≤byteAt s (p+(k+1))∧byteAt s (p+(k+1))<192 then some (64 * d+byteAt s (p+(k+1))-128) else none
def outside (least c:Int):Bool:=decide (c<least) || decide (1114111<c) || (decide (55296≤c)&&decide (c<57344))
def charAt (s:ByteArray) (p:Nat):Nat :=
 if (lead (byteAt s p)).1=0∨s.size<p+(lead (byteAt s p)).1 then 0 else
 match conts s p (lead (byteAt s p)).2.2 ((lead (byteAt s p)).1-1) with
 | none=>0
 | some c=>if outside (lead (byteAt s p)).2.1 c=true then 0 else (lead (byteAt s p)).1
def okFrom (s:ByteArray):Nat→Nat→Bool
 | 0,_=>true
 | f+1,p=>if s.size≤p then true else decide (charAt s p≠0)&&okFrom s f (p+charAt s p)
def validS (s:ByteArray):Bool:=okFrom s s.size 0
theorem okFrom_fuel (s:ByteArray):∀ (f p:Nat),s.size-p≤f→okFrom s f p=okFrom s (s.size-p) p
 | 0,p,h=>by rw [show s.size-p=0 by omega]
 | f+1,p,h=>by
   by_cases hp:s.size≤p
   ·rw [show s.size-p=0 by omega]
    simp [okFrom,hp]
   ·obtain ⟨g,hg⟩:∃ g,s.size-p=g+1:=⟨s.size-p-1,by omega⟩
    rw [hg]
    simp only [okFrom,if_neg hp]
    by_cases hc:charAt s p=0
    ·simp [hc]
    ·rw [okFrom_fuel s f (p+charAt s p) (by omega),okFrom_fuel s g (p+charAt s p) (by omega)]
theorem okFrom_step (s:ByteArray) (p n:Nat) (hp:p<s.size) (hn:charAt s p=n) (h0:n≠0):okFrom s (s.size-p) p=okFrom s (s.size-(p+n)) (p+n):=by
 obtain ⟨g,hg⟩:∃ g,s.size-p=g+1:=⟨s.size-p-1,by omega⟩
 rw [hg]
 simp only [okFrom,if_neg (show ¬ s.size≤p by omega)]
 rw [hn,okFrom_fuel s g (p+n) (by omega)]
 simp [h0]
theorem okFrom_bad (s:ByteArray) (p:Nat) (hp:p<s.size) (hn:charAt s p=0):okFrom s (s.size-p) p=false:=by
 obtain ⟨g,hg⟩:∃ g,s.size-p=g+1:=⟨s.size-p-1,by omega⟩
 rw [hg]
 simp [okFrom,hn,show ¬ s.size≤p by omega]
theorem okFrom_end (s:ByteArray) (p:Nat) (hp:s.size≤p):okFrom s (s.size-p) p=true:=by
 rw [show s.size-p=0 by omega];rfl
theorem charAt_of {s:ByteArray} {p n:Nat} {least c0 c:Int} (hl:lead (byteAt s p)=(n,least,c0)) (hn:n≠0) (hs:p+n≤s.size) (hc:conts s p c0 (n-1)=some c):charAt s p=if outside least c=true then 0 else n:=by
 unfold charAt
 rw [hl]
 simp only
 rw [if_neg (by omega),hc]
theorem charAt_short {s:ByteArray} {p n:Nat} {least c0:Int} (hl:lead (byteAt s p)=(n,least,c0)) (hs:s.size<p+n):charAt s p=0:=by
 unfold charAt
 rw [hl]
 simp only
 rw [if_pos (by omega)]
theorem conts_none {s:ByteArray} {p:Nat} {c:Int}:∀ {k m:Nat},k≤m→conts s p c k=none→conts s p c m=none
 | k,0,h,hn=>by rw [show k=0 by omega] at hn;exact hn
 | k,m+1,h,hn=>by
   by_cases e:k=m+1
   ·rw [← e];exact hn
   ·simp only [conts]
    rw [conts_none (show k≤m by omega) hn]
theorem charAt_cont {s:ByteArray} {p n k:Nat} {least c0:Int} (hl:lead (byteAt s p)=(n,least,c0)) (hk:k≤n-1) (hc:conts s p c0 k=none):charAt s p=0:=by
 unfold charAt
 rw [hl]
 simp only
 rw [conts_none hk hc]
 split<;>rfl
theorem conts_yes {s:ByteArray} {p k:Nat} {c d:Int} (h:conts s p c k=some d) (h1:128≤byteAt s (p+(k+1))) (h2:byteAt s (p+(k+1))<192):conts s p c (k+1)=some (64 * d+byteAt s (p+(k+1))-128):=by
 simp only [conts]
 rw [h]
 simp only
 rw [if_pos ⟨h1,h2⟩]
theorem conts_no {s:ByteArray} {p k:Nat} {c d:Int} (h:conts s p c k=some d) (h1:byteAt s (p+(k+1))<128∨192≤byteAt s (p+(k+1))):conts s p c (k+1)=none:=by
 simp only [conts]
 rw [h]
 simp only
 rw [if_neg (by omega)]
theorem outside_no {least c:Int} (h1:¬ c<least) (h2:¬ 1114111<c) (h3:¬ (55296≤c∧c<57344)):outside least c=false:=by
 simp [outside,h1,h2]
 omega
theorem outside_yes {least c:Int} (h:c<least∨1114111<c∨(55296≤c∧c<57344)):outside least c=true:=by
 simp [outside]
 omega
theorem lead1 {a:Int} (h:a<128):lead a=(1,0,a):=by unfold lead;rw [if_pos h]
theorem lead2 {a:Int} (h:194≤a∧a<224):lead a=(2,128,a-192):=by unfold lead;rw [if_neg (by omega),if_pos h]
theorem lead3 {a:Int} (h:224≤a∧a<240):lead a=(3,2048,a-224):=by unfold lead;rw [if_neg (by omega),if_neg (by omega),if_pos h]
theorem lead4 {a:Int} (h:240≤a∧a<245):lead a=(4,65536,a-240):=by unfold lead;rw [if_neg (by omega),if_neg (by omega),if_neg (by omega),if_pos h]
theorem lead0 {a:Int} (h:(128≤a∧a<194)∨245≤a):lead a=(0,0,0):=by unfold lead;rw [if_neg (by omega),if_neg (by omega),if_neg (by omega),if_neg (by omega)]
theorem charAt_0 {s:ByteArray} {p:Nat} (h:(128≤byteAt s p∧byteAt s p<194)∨245≤byteAt s p):charAt s p=0:=by
 unfold charAt
 rw [lead0 h]
 simp
def leadW (a:Int):Nat×Int×Int:=if a<128 then (1,0,a) else if 192≤a∧a<224 then (2,128,a-192) else if 224≤a∧a<240 then (3,2048,a-224) else if 240≤a∧a<248 then (4,65536,a-240) else (0,0,0)
theorem leadW1 {a:Int} (h:a<128):leadW a=(1,0,a):=by unfold leadW;rw [if_pos h]
theorem leadW2 {a:Int} (h:192≤a∧a<224):leadW a=(2,128,a-192):=by unfold leadW;rw [if_neg (by omega),if_pos h]
theorem leadW3 {a:Int} (h:224≤a∧a<240):leadW a=(3,2048,a-224):=by unfold leadW;rw [if_neg (by omega),if_neg (by omega),if_pos h]
theorem leadW4 {a:Int} (h:240≤a∧a<248):leadW a=(4,65536,a-240):=by unfold leadW;rw [if_neg (by omega),if_neg (by omega),if_neg (by omega),if_pos h]
theorem leadW0 {a:Int} (h:(128≤a∧a<192)∨248≤a):leadW a=(0,0,0):=by unfold leadW;rw [if_neg (by omega),if_neg (by omega),if_neg (by omega),if_neg (by omega)]
theorem conts_range {s:ByteArray} {p:Nat} {c:Int}:∀ {k:Nat} {d:Int},conts s p c k=some d→c * 64 ^ k≤d∧d<(c+1) * 64 ^ k
 | 0,d,h=>by
   simp only [conts,Option.some.injEq] at h
   subst h
   simp
   omega
 | k+1,d,h=>by
   simp only [conts] at h
   cases hc:conts s p c k with
   | none=>rw [hc] at h;cases h
   | some x =>
     rw [hc] at h
     simp only at h
     obtain ⟨h1,h2⟩:=conts_range hc
     split at h
     ·rename_i hb
      simp only [Option.some.injEq] at h
      rw [Int.pow_succ,← Int.mul_assoc,← Int.mul_assoc]
      generalize (c * 64 ^ k:Int)=A at *
      generalize ((c+1) * 64 ^ k:Int)=C at *
      omega
     ·cases h
theorem charAt_W {s:ByteArray} {p n:Nat} {least c0:Int} (hl:leadW (byteAt s p)=(n,least,c0)) (hn:n≠0):charAt s p=if s.size<p+n then 0 else match conts s p c0 (n-1) with
 | none=>0
 | some c=>if outside least c=true then 0 else n:=by
 obtain ⟨h0,h9⟩:=byteAt_range s p
 have hcls:byteAt s p<128∨(192≤byteAt s p∧byteAt s p<194)∨(194≤byteAt s p∧byteAt s p<224)∨(224≤byteAt s p∧byteAt s p<240)∨(240≤byteAt s p∧byteAt s p<245)∨(245≤byteAt s p∧byteAt s p<248)∨((128≤byteAt s p∧byteAt s p<192)∨248≤byteAt s p):=by omega
 have same:lead (byteAt s p)=(n,least,c0)→charAt s p=if s.size<p+n then 0 else match conts s p c0 (n-1) with
  | none=>0
  | some c=>if outside least c=true then 0 else n:=fun hl=>by
  unfold charAt
  rw [hl]
  simp only
  by_cases hs:s.size<p+n
  ·rw [if_pos (.inr hs),if_pos hs]
  ·rw [if_neg (by omega),if_neg hs]
 have none0:(∀ c,conts s p c0 (n-1)=some c→outside least c=true)→charAt s p=0→charAt s p=if s.size<p+n then 0 else match conts s p c0 (n-1) with
  | none=>0
  | some c=>if outside least c=true then 0 else n:=fun ho hz=>by
  rw [hz]
  split
  ·rfl
  ·split
   ·rfl
   ·rename_i c hc
    rw [if_pos (ho c hc)]
 rcases hcls with h | h | h | h | h | h | h
 ·exact same (by rw [lead1 h,← hl,leadW1 h])
 ·rw [leadW2 (by omega)] at hl
  simp only [Prod.mk.injEq] at hl
  obtain ⟨rfl,rfl,rfl⟩:=hl
  refine none0 (fun c hc=>outside_yes (.inl ?_)) (charAt_0 (.inl (by omega)))
  have:=(conts_range hc).2
  simp at this
  omega
 ·exact same (by rw [lead2 h,← hl,leadW2 (by omega)])
 ·exact same (by rw [lead3 h,← hl,leadW3 h])
 ·exact same (by rw [lead4 h,← hl,leadW4 (by omega)])
 ·rw [leadW4 (by omega)] at hl
  simp only [Prod.mk.injEq] at hl
  obtain ⟨rfl,rfl,rfl⟩:=hl
  refine none0 (fun c hc=>outside_yes (.inr (.inl ?_))) (charAt_0 (.inr (by omega)))
  have:=(conts_range hc).1
  simp at this
  omega
 ·rw [leadW0 h] at hl
  simp only [Prod.mk.injEq] at hl
  exact absurd hl.1.symm hn
theorem charAt_W0 {s:ByteArray} {p:Nat} (h:(128≤byteAt s p∧byteAt s p<192)∨248≤byteAt s p):charAt s p=0:=charAt_0 (by omega)
theorem charAt_Wshort {s:ByteArray} {p n:Nat} {least c0:Int} (hl:leadW (byteAt s p)=(n,least,c0)) (hn:n≠0) (hs:s.size<p+n):charAt s p=0:=by rw [charAt_W hl hn,if_pos hs]
theorem charAt_Wcont {s:ByteArray} {p n k:Nat} {least c0:Int} (hl:leadW (byteAt s p)=(n,least,c0)) (hn:n≠0) (hk:k≤n-1) (hc:conts s p c0 k=none):charAt s p=0:=by
 rw [charAt_W hl hn,conts_none hk hc]
 split<;>rfl
theorem charAt_Wof {s:ByteArray} {p n:Nat} {least c0 c:Int} (hl:leadW (byteAt s p)=(n,least,c0)) (hn:n≠0) (hs:p+n≤s.size) (hc:conts s p c0 (n-1)=some c):charAt s p=if outside least c=true then 0 else n:=by
 rw [charAt_W hl hn,if_neg (by omega),hc]
end Go.Proofs.YtniljgkkcnekgaaGreatDoor

/- The characters of a valid string: where they begin and end. No program here. -/
namespace Go.Proofs.YtniljgkkcnekgaaGreatDoor
open Go.RowKit
theorem conts_bytes {s:ByteArray} {p:Nat} {c:Int}:∀ {k:Nat} {d:Int},conts s p c k=some d→∀ j,1≤j→j≤k→128≤byteAt s (p+j)∧byteAt s (p+j)<192
 | 0,d,_,j,h1,h2=>by omega
 | k+1,d,h,j,h1,h2=>by
   simp only [conts] at h
   cases hc:conts s p c k with
   | none=>rw [hc] at h;cases h
   | some e =>
     rw [hc] at h
     simp only at h
     by_cases hb:128≤byteAt s (p+(k+1))∧byteAt s (p+(k+1))<192
     ·by_cases hj:j=k+1
      ·rw [hj];exact hb
      ·exact conts_bytes hc j h1 (by omega)
     ·rw [if_neg hb] at h;cases h
theorem charAt_parts {s:ByteArray} {p:Nat} (h:charAt s p≠0):charAt s p=(lead (byteAt s p)).1∧p+charAt s p≤s.size∧(byteAt s p<128∨194≤byteAt s p)∧∀ j,1≤j→j<charAt s p→128≤byteAt s (p+j)∧byteAt s (p+j)<192:=by
 by_cases h1:(lead (byteAt s p)).1=0∨s.size<p+(lead (byteAt s p)).1
 ·exact absurd (by unfold charAt;rw [if_pos h1]) h
 ·cases hc:conts s p (lead (byteAt s p)).2.2 ((lead (byteAt s p)).1-1) with
  | none=>exact absurd (by unfold charAt;rw [if_neg h1,hc]) h
  | some c =>
    by_cases ho:outside (lead (byteAt s p)).2.1 c=true
    ·exact absurd (by unfold charAt;rw [if_neg h1,hc];simp only;rw [if_pos ho]) h
    ·have e:charAt s p=(lead (byteAt s p)).1:=by unfold charAt;rw [if_neg h1,hc];simp only;rw [if_neg ho]
     refine ⟨e,by rw [e];omega,?_,fun j hj1 hj2=>conts_bytes hc j hj1 (by rw [e] at hj2;omega)⟩
     by_cases hb:byteAt s p<128∨194≤byteAt s p
     ·exact hb
     ·rw [lead0 (by omega)] at h1
      exact absurd (Or.inl rfl) h1
end Go.Proofs.YtniljgkkcnekgaaGreatDoor
/- The model's decoder takes a valid character as long as it is. No program here. -/
namespace Go.Proofs.YtniljgkkcnekgaaGreatDoor
open Go.RowKit
end Go.Proofs.YtniljgkkcnekgaaGreatDoor
/- Parts of a valid string between two of its characters are valid. No program here. -/
namespace Go.Proofs.YtniljgkkcnekgaaGreatDoor
open Go.RowKit
theorem byteAt_extract (s:ByteArray) (a b q:Nat) (hb:b≤s.size) (h:a+q<b):byteAt (s.extract a b) q=byteAt s (a+q):=by
 have h1:a+q<s.size:=by omega
 have h2:q<(s.extract a b).size:=by simp;omega
 rw [← byteAt_eq s _ h1,← byteAt_eq _ _ h2]
 rw [ByteArray.getElem_extract]
theorem conts_extract (s:ByteArray) (a b q:Nat) (c:Int) (hb:b≤s.size):∀ k,a+q+k<b→conts (s.extract a b) q c k=conts s (a+q) c k
 | 0,_=>rfl
 | k+1,h=>by
   simp only [conts]
   rw [conts_extract s a b q c hb k (by omega),byteAt_extract s a b _ hb (by omega),show a+(q+(k+1))=a+q+(k+1) by omega]
theorem charAt_extract {s:ByteArray} {a b q:Nat} (hb:b≤s.size) (h0:charAt s (a+q)≠0) (h:a+q+charAt s (a+q)≤b):charAt (s.extract a b) q=charAt s (a+q):=by
 obtain ⟨e,hs,_,_⟩:=charAt_parts h0
 have hq:a+q<b:=by omega
 have hbyte:=byteAt_extract s a b q hb hq
 have hsz:(s.extract a b).size=b-a:=by simp;omega
 have hn:(lead (byteAt s (a+q))).1≠0:=by rw [← e];exact h0
 rw [e] at h hs
 have hc:=conts_extract s a b q (lead (byteAt s (a+q))).2.2 hb ((lead (byteAt s (a+q))).1-1) (by omega)
 unfold charAt
 rw [hbyte,hsz,hc]
 rw [if_neg (show ¬ ((lead (byteAt s (a+q))).1=0∨b-a<q+(lead (byteAt s (a+q))).1) by omega),if_neg (show ¬ ((lead (byteAt s (a+q))).1=0∨s.size<a+q+(lead (byteAt s (a+q))).1) by omega)]
inductive Run (s:ByteArray):Nat→Nat→Prop
 | nil (a:Nat):Run s a a
 | cons {a b:Nat} (h:charAt s a≠0) (t:Run s (a+charAt s a) b):Run s a b
theorem Run.le {s:ByteArray} {a b:Nat} (h:Run s a b):a≤b:=by
 induction h with
 | nil=>omega
 | cons _ _ ih=>omega
theorem Run.valid {s:ByteArray} {a b q c:Nat} (hb:b≤s.size) (hc:a+q=c) (h:Run s c b) (hab:a≤b):okFrom (s.extract a b) ((s.extract a b).size-q) q=true:=by
 have hsz:(s.extract a b).size=b-a:=by simp;omega
 induction h generalizing q with
 | nil c=>exact okFrom_end _ _ (by omega)
 | @cons c b h0 t ih =>
   have hle:=t.le
   have e:=charAt_extract (s:=s) (a:=a) (b:=b) (q:=q) hb (by rw [hc];exact h0) (by rw [hc];exact hle)
   rw [hc] at e
   rw [okFrom_step _ q _ (by rw [hsz];omega) e h0]
   exact ih hb (by omega) hab hsz
theorem Run.validS {s:ByteArray} {a b:Nat} (hb:b≤s.size) (h:Run s a b):validS (s.extract a b)=true:=by
 have:=Run.valid (q:=0) hb (Nat.add_zero a) h h.le
 exact this
end Go.Proofs.YtniljgkkcnekgaaGreatDoor
/- The characters of a valid string,joined: the part from the first one to the last one. No program here. -/
namespace Go.Proofs.YtniljgkkcnekgaaGreatDoor
open Go.RowKit
inductive Spans (s:ByteArray):Nat→List (Nat×Nat)→Prop
 | nil:Spans s s.size []
 | cons {p:Nat} {l:List (Nat×Nat)} (h:charAt s p≠0) (t:Spans s (p+charAt s p) l):Spans s p ((p,p+charAt s p)::l)
theorem Spans.le {s:ByteArray} {p:Nat} {l:List (Nat×Nat)} (h:Spans s p l):p≤s.size:=by
 induction h with
 | nil=>exact Nat.le_refl _
 | @cons p l h t ih=>omega
theorem Spans.first {s:ByteArray} {p:Nat} {l:List (Nat×Nat)} (h:Spans s p l):(match l[0]? with | some x=>x.1 | none=>s.size)=p:=by
 cases h with
 | nil=>rfl
 | cons=>rfl
theorem Spans.drop {s:ByteArray} {p:Nat} {l:List (Nat×Nat)} (h:Spans s p l):∀ k,k≤l.length→∃ q,Spans s q (l.drop k):=by
 induction h with
 | nil=>intro k hk;exact ⟨_,by rw [List.drop_nil];exact .nil⟩
 | @cons p l h t ih =>
   intro k hk
   cases k with
   | zero=>exact ⟨_,.cons h t⟩
   | succ k=>exact ih k (by simpa using hk)
end Go.Proofs.YtniljgkkcnekgaaGreatDoor

/- The library's valid UTF-8 (utf8.ValidString) is the plain function validS. No program here. -/
namespace Go.Proofs.YtniljgkkcnekgaaGreatDoor
open Go.RowKit
end Go.Proofs.YtniljgkkcnekgaaGreatDoor

/- The reference's Bad (datakitref35): below 0 just where the string is valid. -/
namespace Go.Proofs.YtniljgkkcnekgaaGreatDoor
open Go.RowKit
def BadInt (s:ByteArray) (w:World) (e:Ending) (w':World):Prop:=∃ k:Int,e=.returned (.int .i64 k)∧(k<0↔validS s=true)∧∃ m,w'=w.drewN m
theorem bad_at {s:ByteArray} {w:World} {p:Nat} {m:Nat} (hp:p<s.size) (hr:okFrom s (s.size-p) p=validS s) (hc:charAt s p=0):BadInt s w (.returned (.int .i64 (p:Int))) (w.drewN m):=by
 refine ⟨p,rfl,⟨fun h=>by omega,fun h=>?_⟩,m,rfl⟩
 rw [← hr,okFrom_bad s p hp hc] at h
 cases h
set_option maxRecDepth 100000 in
set_option maxHeartbeats 3200000 in
theorem bad35 (s:ByteArray) (w:World) (hs:s.size≤1099511627776):Calls Tryz.prog 42 #[.string s] w (BadInt s w):=by
 go_enter Tryz.func42,Tryz.ntmps42
 go_wp2_with fail
 go_loopw [3] (fun i wr=>∃ p:Nat,p≤s.size∧i=.int .i64 p∧okFrom s (s.size-p) p=validS s∧∃ m,wr=w.drewN m) (fun i _=>s.size-(intOf i).toNat)
 case atStart=>exact ⟨0,by omega,rfl,rfl,0,rfl⟩
 case round =>
  obtain ⟨p,hp,rfl,hr,m,rfl⟩:=hrel
  have HR:=Hd hr
  clear hr
  by_cases hlt:p<s.size
  ·have hb0:=byteAt_eq s p hlt
   obtain ⟨hb1,hb2⟩:=byteAt_range s p
   have hcls:byteAt s p<128∨(194≤byteAt s p∧byteAt s p<224)∨(224≤byteAt s p∧byteAt s p<240)∨(240≤byteAt s p∧byteAt s p<245)∨(128≤byteAt s p∧byteAt s p<194)∨245≤byteAt s p:=by omega
   rcases hcls with h1 | ⟨h1,h2⟩ | ⟨h1,h2⟩ | ⟨h1,h2⟩ | ⟨h1,h2⟩ | h1
   ·have hl:lead (byteAt s p)=(1,0,byteAt s p):=lead1 h1
    have HL:=Hd hl
    clear hl
    go_wp2_with fail
    go_quiet (fail)
    go_wp2_with fail
    go_simp
    go_loopw [6,7] (fun c i wr=>∃ (d:Int) (k:Nat),k+1≤1∧i=.int .i64 ((k:Int)+1)∧c=.int .i64 d∧0≤d∧((k=0∧d≤127)∨(k=1∧d≤8191)∨(k=2∧d≤524287)∨(k=3∧d≤33554431))∧conts s p (byteAt s p) k=some d∧∃ q,wr=w.drewN q) (fun _ i _=>1-(intOf i).toNat)
    case atStart=>exact ⟨_,0,by omega,by simp,rfl,by omega,by omega,rfl,_,rfl⟩
    case round =>
     obtain ⟨d,k,hk,rfl,rfl,hd0,hd1,hc,q,rfl⟩:=hrel
     have HC:=Hd hc
     clear hc
     obtain rfl:k=0:=by omega
     have hd9:d≤33554431:=by omega
     by_cases ho:d<0∨1114111<d∨(55296≤d∧d<57344)
     ·have HX:=Hd (show charAt s p=0 by rw [charAt_of HL.out (by omega) (by omega) HC.out,if_pos (outside_yes ho)])
      rcases ho with ho | ho | ⟨ho,ho2⟩
      all_goals
       go_wp2_with fail
       all_goals
        go_ret
        exact bad_at hlt HR.out HX.out
     ·have HX:=Hd (show charAt s p=1 by rw [charAt_of HL.out (by omega) (by omega) HC.out,if_neg (by rw [outside_no (by omega) (by omega) (by omega)];simp)])
      go_wp2_with fail
      all_goals
       go_roundw
       case rel=>exact ⟨p+1,by omega,by go_num,by rw [← HR.out];exact (okFrom_step s p 1 hlt HX.out (by omega)).symm,_,rfl⟩
       case measure=>simp [intOf];omega
   ·have hl:lead (byteAt s p)=(2,128,byteAt s p-192):=lead2 ⟨h1,h2⟩
    have HL:=Hd hl
    clear hl
    by_cases hsz:p+2≤s.size
    ·go_wp2_with fail
     go_quiet (fail)
     go_wp2_with fail
     go_simp
     go_loopw [6,7] (fun c i wr=>∃ (d:Int) (k:Nat),k+1≤2∧i=.int .i64 ((k:Int)+1)∧c=.int .i64 d∧0≤d∧((k=0∧d≤127)∨(k=1∧d≤8191)∨(k=2∧d≤524287)∨(k=3∧d≤33554431))∧conts s p (byteAt s p-192) k=some d∧∃ q,wr=w.drewN q) (fun _ i _=>2-(intOf i).toNat)
     case atStart=>exact ⟨_,0,by omega,by simp,rfl,by omega,by omega,rfl,_,rfl⟩
     case round =>
      obtain ⟨d,k,hk,rfl,rfl,hd0,hd1,hc,q,rfl⟩:=hrel
      have HC:=Hd hc
      clear hc
      by_cases hkn:k+1<2
      ·have hlt2:p+(k+1)<s.size:=by omega
       have hb3:=byteAt_eq s (p+(k+1)) hlt2
       obtain ⟨hb4,hb5⟩:=byteAt_range s (p+(k+1))
       by_cases hc1:byteAt s (p+(k+1))<128
       ·have HX:=Hd (charAt_cont HL.out (by omega) (conts_no HC.out (.inl hc1)))
        go_wp2_with fail
        go_ret
        exact bad_at hlt HR.out HX.out
       ·by_cases hc2:192≤byteAt s (p+(k+1))
        ·have HX:=Hd (charAt_cont HL.out (by omega) (conts_no HC.out (.inr hc2)))
         go_wp2_with fail
         go_ret
         exact bad_at hlt HR.out HX.out
        ·have HY:=Hd (conts_yes HC.out (by omega) (by omega))
         go_wp2_with fail
         go_roundw
         case rel=>exact ⟨_,k+1,by omega,by go_num,rfl,by omega,by omega,HY.out,_,rfl⟩
         case measure=>simp [intOf];omega
      ·obtain rfl:k=1:=by omega
       clear hkn
       have hd9:d≤33554431:=by omega
       by_cases ho:d<128∨1114111<d∨(55296≤d∧d<57344)
       ·have HX:=Hd (show charAt s p=0 by rw [charAt_of HL.out (by omega) (by omega) HC.out,if_pos (outside_yes ho)])
        rcases ho with ho | ho | ⟨ho,ho2⟩
        all_goals
         go_wp2_with fail
         all_goals
          go_ret
          exact bad_at hlt HR.out HX.out
       ·have HX:=Hd (show charAt s p=2 by rw [charAt_of HL.out (by omega) (by omega) HC.out,if_neg (by rw [outside_no (by omega) (by omega) (by omega)];simp)])
        go_wp2_with fail
        all_goals
         go_roundw
         case rel=>exact ⟨p+2,by omega,by go_num,by rw [← HR.out];exact (okFrom_step s p 2 hlt HX.out (by omega)).symm,_,rfl⟩
         case measure=>simp [intOf];omega
    ·have HX:=Hd (charAt_short HL.out (by omega))
     go_wp2_with fail
     go_quiet (fail)
     go_wp2_with fail
     go_ret
     exact bad_at hlt HR.out HX.out
   ·have hl:lead (byteAt s p)=(3,2048,byteAt s p-224):=lead3 ⟨h1,h2⟩
    have HL:=Hd hl
    clear hl
    by_cases hsz:p+3≤s.size
    ·go_wp2_with fail
     go_quiet (fail)
     go_wp2_with fail
     go_simp
     go_loopw [6,7] (fun c i wr=>∃ (d:Int) (k:Nat),k+1≤3∧i=.int .i64 ((k:Int)+1)∧c=.int .i64 d∧0≤d∧((k=0∧d≤127)∨(k=1∧d≤8191)∨(k=2∧d≤524287)∨(k=3∧d≤33554431))∧conts s p (byteAt s p-224) k=some d∧∃ q,wr=w.drewN q) (fun _ i _=>3-(intOf i).toNat)
     case atStart=>exact ⟨_,0,by omega,by simp,rfl,by omega,by omega,rfl,_,rfl⟩
     case round =>
      obtain ⟨d,k,hk,rfl,rfl,hd0,hd1,hc,q,rfl⟩:=hrel
      have HC:=Hd hc
      clear hc
      by_cases hkn:k+1<3
      ·have hlt2:p+(k+1)<s.size:=by omega
       have hb3:=byteAt_eq s (p+(k+1)) hlt2
       obtain ⟨hb4,hb5⟩:=byteAt_range s (p+(k+1))
       by_cases hc1:byteAt s (p+(k+1))<128
       ·have HX:=Hd (charAt_cont HL.out (by omega) (conts_no HC.out (.inl hc1)))
        go_wp2_with fail
        go_ret
        exact bad_at hlt HR.out HX.out
       ·by_cases hc2:192≤byteAt s (p+(k+1))
        ·have HX:=Hd (charAt_cont HL.out (by omega) (conts_no HC.out (.inr hc2)))
         go_wp2_with fail
         go_ret
         exact bad_at hlt HR.out HX.out
        ·have HY:=Hd (conts_yes HC.out (by omega) (by omega))
         go_wp2_with fail
         go_roundw
         case rel=>exact ⟨_,k+1,by omega,by go_num,rfl,by omega,by omega,HY.out,_,rfl⟩
         case measure=>simp [intOf];omega
      ·obtain rfl:k=2:=by omega
       clear hkn
       have hd9:d≤33554431:=by omega
       by_cases ho:d<2048∨1114111<d∨(55296≤d∧d<57344)
       ·have HX:=Hd (show charAt s p=0 by rw [charAt_of HL.out (by omega) (by omega) HC.out,if_pos (outside_yes ho)])
        rcases ho with ho | ho | ⟨ho,ho2⟩
        all_goals
         go_wp2_with fail
         all_goals
          go_ret
          exact bad_at hlt HR.out HX.out
       ·have HX:=Hd (show charAt s p=3 by rw [charAt_of HL.out (by omega) (by omega) HC.out,if_neg (by rw [outside_no (by omega) (by omega) (by omega)];simp)])
        go_wp2_with fail
        all_goals
         go_roundw
         case rel=>exact ⟨p+3,by omega,by go_num,by rw [← HR.out];exact (okFrom_step s p 3 hlt HX.out (by omega)).symm,_,rfl⟩
         case measure=>simp [intOf];omega
    ·have HX:=Hd (charAt_short HL.out (by omega))
     go_wp2_with fail
     go_quiet (fail)
     go_wp2_with fail
     go_ret
     exact bad_at hlt HR.out HX.out
   ·have hl:lead (byteAt s p)=(4,65536,byteAt s p-240):=lead4 ⟨h1,h2⟩
    have HL:=Hd hl
    clear hl
    by_cases hsz:p+4≤s.size
    ·go_wp2_with fail
     go_quiet (fail)
     go_wp2_with fail
     go_simp
     go_loopw [6,7] (fun c i wr=>∃ (d:Int) (k:Nat),k+1≤4∧i=.int .i64 ((k:Int)+1)∧c=.int .i64 d∧0≤d∧((k=0∧d≤127)∨(k=1∧d≤8191)∨(k=2∧d≤524287)∨(k=3∧d≤33554431))∧conts s p (byteAt s p-240) k=some d∧∃ q,wr=w.drewN q) (fun _ i _=>4-(intOf i).toNat)
     case atStart=>exact ⟨_,0,by omega,by simp,rfl,by omega,by omega,rfl,_,rfl⟩
     case round =>
      obtain ⟨d,k,hk,rfl,rfl,hd0,hd1,hc,q,rfl⟩:=hrel
      have HC:=Hd hc
      clear hc
      by_cases hkn:k+1<4
      ·have hlt2:p+(k+1)<s.size:=by omega
       have hb3:=byteAt_eq s (p+(k+1)) hlt2
       obtain ⟨hb4,hb5⟩:=byteAt_range s (p+(k+1))
       by_cases hc1:byteAt s (p+(k+1))<128
       ·have HX:=Hd (charAt_cont HL.out (by omega) (conts_no HC.out (.inl hc1)))
        go_wp2_with fail
        go_ret
        exact bad_at hlt HR.out HX.out
       ·by_cases hc2:192≤byteAt s (p+(k+1))
        ·have HX:=Hd (charAt_cont HL.out (by omega) (conts_no HC.out (.inr hc2)))
         go_wp2_with fail
         go_ret
         exact bad_at hlt HR.out HX.out
        ·have HY:=Hd (conts_yes HC.out (by omega) (by omega))
         go_wp2_with fail
         go_roundw
         case rel=>exact ⟨_,k+1,by omega,by go_num,rfl,by omega,by omega,HY.out,_,rfl⟩
         case measure=>simp [intOf];omega
      ·obtain rfl:k=3:=by omega
       clear hkn
       have hd9:d≤33554431:=by omega
       by_cases ho:d<65536∨1114111<d∨(55296≤d∧d<57344)
       ·have HX:=Hd (show charAt s p=0 by rw [charAt_of HL.out (by omega) (by omega) HC.out,if_pos (outside_yes ho)])
        rcases ho with ho | ho | ⟨ho,ho2⟩
        all_goals
         go_wp2_with fail
         all_goals
          go_ret
          exact bad_at hlt HR.out HX.out
       ·have HX:=Hd (show charAt s p=4 by rw [charAt_of HL.out (by omega) (by omega) HC.out,if_neg (by rw [outside_no (by omega) (by omega) (by omega)];simp)])
        go_wp2_with fail
        all_goals
         go_roundw
         case rel=>exact ⟨p+4,by omega,by go_num,by rw [← HR.out];exact (okFrom_step s p 4 hlt HX.out (by omega)).symm,_,rfl⟩
         case measure=>simp [intOf];omega
    ·have HX:=Hd (charAt_short HL.out (by omega))
     go_wp2_with fail
     go_quiet (fail)
     go_wp2_with fail
     go_ret
     exact bad_at hlt HR.out HX.out
   ·have HX:=Hd (charAt_0 (.inl ⟨h1,h2⟩))
    go_wp2_with fail
    go_quiet (fail)
    go_wp2_with fail
    go_ret
    exact bad_at hlt HR.out HX.out
   ·have HX:=Hd (charAt_0 (.inr h1))
    go_wp2_with fail
    go_quiet (fail)
    go_wp2_with fail
    go_ret
    exact bad_at hlt HR.out HX.out
  ·have HE:=Hd (show validS s=true by rw [← HR.out];exact okFrom_end s p (by omega))
   go_wp2_with fail
   go_ret
   exact ⟨-1,rfl,⟨fun _=>HE.out,fun _=>by omega⟩,m,rfl⟩
end Go.Proofs.YtniljgkkcnekgaaGreatDoor
