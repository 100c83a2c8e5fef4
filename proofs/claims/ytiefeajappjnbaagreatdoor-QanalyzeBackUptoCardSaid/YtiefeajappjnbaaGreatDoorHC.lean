/- The characters of a valid string: where they begin and end. No program here. -/
import Derived.Test.YtiefeajappjnbaaGreatDoorUtf8D
import Derived.Lib.DecodeN
import Derived.Lib.ValidLaws
import Derived.Lib.RuneCountTail
import Derived.Test.YtiefeajappjnbaaGreatDoorGA
import Derived.WalkKit
import Derived.WalkSpells
import Derived.WalkLawsBesides
import Derived.LoopTactic
import Derived.BigQuiet
import Derived.Deep.QuietTactic
import Derived.Lib.Hide
namespace Go.Proofs.YtiefeajappjnbaaGreatDoor
open Go.RowKit
theorem kR {s:ByteArray} {p:Nat} {c:Int}:∀ {k:Nat} {d:Int},aR s p c k=some d→∀ j,1≤j→j≤k→128≤ah s (p+j)∧ah s (p+j)<192
 | 0,d,_,j,h1,h2=>by omega
 | k+1,d,h,j,h1,h2=>by
   simp only [aR] at h
   cases hc:aR s p c k with
   | none=>rw [hc] at h;cases h
   | some e =>
     rw [hc] at h
     simp only at h
     by_cases hb:128≤ah s (p+(k+1))∧ah s (p+(k+1))<192
     ·by_cases hj:j=k+1
      ·rw [hj];exact hb
      ·exact kR hc j h1 (by omega)
     ·rw [if_neg hb] at h;cases h
theorem eU {s:ByteArray} {p:Nat} (h:au s p≠0):au s p=(cv (ah s p)).1∧p+au s p≤s.size∧(ah s p<128∨194≤ah s p)∧∀ j,1≤j→j<au s p→128≤ah s (p+j)∧ah s (p+j)<192:=by
 by_cases h1:(cv (ah s p)).1=0∨s.size<p+(cv (ah s p)).1
 ·exact absurd (by unfold au;rw [if_pos h1]) h
 ·cases hc:aR s p (cv (ah s p)).2.2 ((cv (ah s p)).1-1) with
  | none=>exact absurd (by unfold au;rw [if_neg h1,hc]) h
  | some c =>
    by_cases ho:bi (cv (ah s p)).2.1 c=true
    ·exact absurd (by unfold au;rw [if_neg h1,hc];simp only;rw [if_pos ho]) h
    ·have e:au s p=(cv (ah s p)).1:=by unfold au;rw [if_neg h1,hc];simp only;rw [if_neg ho]
     refine ⟨e,by rw [e];omega,?_,fun j hj1 hj2=>kR hc j hj1 (by rw [e] at hj2;omega)⟩
     by_cases hb:ah s p<128∨194≤ah s p
     ·exact hb
     ·rw [AR (by omega)] at h1
      exact absurd (Or.inl rfl) h1
def A5 (s:ByteArray):Nat→Nat→List (Nat×Nat)
 | 0,_=>[]
 | f+1,p=>if s.size≤p then [] else (p,p+au s p)::A5 s f (p+au s p)
end Go.Proofs.YtiefeajappjnbaaGreatDoor
/- The model's decoder takes a valid character as long as it is. No program here. -/
namespace Go.Proofs.YtiefeajappjnbaaGreatDoor
open Go.RowKit
theorem b6 (s:ByteArray) (i:Nat) (h:i<s.size):((s.get! i).toNat:Int)=ah s i:=by
 rw [← bI s i h]
 cases s with
 | mk d =>
   have h':i<d.size:=h
   show ((d[i]!).toNat:Int)=((d[i]).toNat:Int)
   rw [getElem!_pos d i h']
theorem kS {s:ByteArray} {p n:Nat} {least c0 c:Int} (h:au s p≠0) (hl:cv (ah s p)=(n,least,c0)) (hn:n≠0) (hs:p+n≤s.size) (hc:aR s p c0 (n-1)=some c) :
 least≤c∧c≤1114111∧¬ (55296≤c∧c<57344):=by
 have h1:=cL hl hn hs hc
 by_cases ho:bi least c=true
 ·rw [if_pos ho] at h1;exact absurd h1 h
 ·refine ⟨?_,?_,?_⟩
  ·exact Int.not_lt.1 fun g=>ho (bq (.inl g))
  ·exact Int.not_lt.1 fun g=>ho (bq (.inr (.inl g)))
  ·exact fun g=>ho (bq (.inr (.inr g)))
set_option maxHeartbeats 1600000 in
theorem jc {s:ByteArray} {p:Nat} (h:au s p≠0):(Utf8.decode s p).2=au s p:=by
 obtain ⟨e,hs,hb,hc⟩:=eU h
 have hB:=az s p
 have hp:p<s.size:=by omega
 have G0:=b6 s p hp
 rw [Lib.decode_at]
 have hcase:ah s p<128∨(194≤ah s p∧ah s p<224)∨(224≤ah s p∧ah s p<240)∨(240≤ah s p∧ah s p<245)∨245≤ah s p:=by omega
 rcases hcase with g | g | g | g | g
 ·have hl:=sR g
  rw [hl] at e
  rw [e]
  unfold Lib.decodeN
  rw [if_pos (by omega)]
 ·have hl:=pT g
  rw [hl] at e
  simp only at e
  have h1:=hc 1 (by omega) (by omega)
  have G1:=b6 s (p+1) (by omega)
  rw [e]
  generalize (s.get! p).toNat=b0 at *
  generalize (s.get! (p+1)).toNat=b1 at *
  generalize (s.get! (p+2)).toNat=b2 at *
  generalize (s.get! (p+3)).toNat=b3 at *
  unfold Lib.decodeN
  rw [if_neg (by omega),if_pos (by omega),if_pos (by omega)]
 ·have hl:=pS g
  rw [hl] at e
  simp only at e
  have h1:=hc 1 (by omega) (by omega)
  have h2:=hc 2 (by omega) (by omega)
  have G1:=b6 s (p+1) (by omega)
  have G2:=b6 s (p+2) (by omega)
  have c1:=aK (s:=s) (p:=p) (k:=0) (c:=ah s p-224) rfl h1.1 h1.2
  have c2:=aK c1 h2.1 h2.2
  obtain ⟨o1,o2,o3⟩:=kS h hl (by decide) (by omega) c2
  simp only [Nat.zero_add] at o1 o2 o3
  rw [show p+(1+1)=p+2 from rfl] at o1 o2 o3
  rw [e]
  generalize (s.get! p).toNat=b0 at *
  generalize (s.get! (p+1)).toNat=b1 at *
  generalize (s.get! (p+2)).toNat=b2 at *
  generalize (s.get! (p+3)).toNat=b3 at *
  unfold Lib.decodeN
  rw [if_neg (by omega),if_neg (by omega),if_pos (by omega),if_pos (by omega)]
 ·have hl:=pR g
  rw [hl] at e
  simp only at e
  have h1:=hc 1 (by omega) (by omega)
  have h2:=hc 2 (by omega) (by omega)
  have h3:=hc 3 (by omega) (by omega)
  have G1:=b6 s (p+1) (by omega)
  have G2:=b6 s (p+2) (by omega)
  have G3:=b6 s (p+3) (by omega)
  have c1:=aK (s:=s) (p:=p) (k:=0) (c:=ah s p-240) rfl h1.1 h1.2
  have c2:=aK c1 h2.1 h2.2
  have c3:=aK c2 h3.1 h3.2
  obtain ⟨o1,o2,o3⟩:=kS h hl (by decide) (by omega) c3
  simp only [Nat.zero_add] at o1 o2 o3
  rw [show p+(1+1)=p+2 from rfl,show p+(1+1+1)=p+3 from rfl] at o1 o2 o3
  rw [e]
  generalize (s.get! p).toNat=b0 at *
  generalize (s.get! (p+1)).toNat=b1 at *
  generalize (s.get! (p+2)).toNat=b2 at *
  generalize (s.get! (p+3)).toNat=b3 at *
  unfold Lib.decodeN
  rw [if_neg (by omega),if_neg (by omega),if_neg (by omega),if_pos (by omega),if_pos (by omega)]
 ·exact absurd (fB (.inr g)) h
end Go.Proofs.YtiefeajappjnbaaGreatDoor
/- Parts of a valid string between two of its characters are valid. No program here. -/
namespace Go.Proofs.YtiefeajappjnbaaGreatDoor
open Go.RowKit
theorem iu (s:ByteArray) (a b q:Nat) (hb:b≤s.size) (h:a+q<b):ah (s.extract a b) q=ah s (a+q):=by
 have h1:a+q<s.size:=by omega
 have h2:q<(s.extract a b).size:=by simp;omega
 rw [← bI s _ h1,← bI _ _ h2]
 rw [ByteArray.getElem_extract]
theorem jb (s:ByteArray) (a b q:Nat) (c:Int) (hb:b≤s.size):∀ k,a+q+k<b→aR (s.extract a b) q c k=aR s (a+q) c k
 | 0,_=>rfl
 | k+1,h=>by
   simp only [aR]
   rw [jb s a b q c hb k (by omega),iu s a b _ hb (by omega),show a+(q+(k+1))=a+q+(k+1) by omega]
theorem mt {s:ByteArray} {a b q:Nat} (hb:b≤s.size) (h0:au s (a+q)≠0) (h:a+q+au s (a+q)≤b):au (s.extract a b) q=au s (a+q):=by
 obtain ⟨e,hs,_,_⟩:=eU h0
 have hq:a+q<b:=by omega
 have hbyte:=iu s a b q hb hq
 have hsz:(s.extract a b).size=b-a:=by simp;omega
 have hn:(cv (ah s (a+q))).1≠0:=by rw [← e];exact h0
 rw [e] at h hs
 have hc:=jb s a b q (cv (ah s (a+q))).2.2 hb ((cv (ah s (a+q))).1-1) (by omega)
 unfold au
 rw [hbyte,hsz,hc]
 rw [if_neg (show ¬ ((cv (ah s (a+q))).1=0∨b-a<q+(cv (ah s (a+q))).1) by omega),if_neg (show ¬ ((cv (ah s (a+q))).1=0∨s.size<a+q+(cv (ah s (a+q))).1) by omega)]
inductive Run (s:ByteArray):Nat→Nat→Prop
 | nil (a:Nat):Run s a a
 | cons {a b:Nat} (h:au s a≠0) (t:Run s (a+au s a) b):Run s a b
theorem Run.le {s:ByteArray} {a b:Nat} (h:Run s a b):a≤b:=by
 induction h with
 | nil=>omega
 | cons _ _ ih=>omega
theorem Run.valid {s:ByteArray} {a b q c:Nat} (hb:b≤s.size) (hc:a+q=c) (h:Run s c b) (hab:a≤b):ct (s.extract a b) ((s.extract a b).size-q) q=true:=by
 have hsz:(s.extract a b).size=b-a:=by simp;omega
 induction h generalizing q with
 | nil c=>exact gt _ _ (by omega)
 | @cons c b h0 t ih =>
   have hle:=t.le
   have e:=mt (s:=s) (a:=a) (b:=b) (q:=q) hb (by rw [hc];exact h0) (by rw [hc];exact hle)
   rw [hc] at e
   rw [cz _ q _ (by rw [hsz];omega) e h0]
   exact ih hb (by omega) hab hsz
theorem Run.validS {s:ByteArray} {a b:Nat} (hb:b≤s.size) (h:Run s a b):validS (s.extract a b)=true:=by
 have:=Run.valid (q:=0) hb (Nat.add_zero a) h h.le
 exact this
end Go.Proofs.YtiefeajappjnbaaGreatDoor
/- The characters of a valid string,joined: the part from the first one to the last one. No program here. -/
namespace Go.Proofs.YtiefeajappjnbaaGreatDoor
open Go.RowKit
def Bo (s:ByteArray):List (Nat×Nat):=A5 s s.size 0
def posD (s:ByteArray) (k:Nat):Nat:=match (Bo s)[k]? with
 | some x=>x.1
 | none=>s.size
inductive jd (s:ByteArray):Nat→List (Nat×Nat)→Prop
 | nil:jd s s.size []
 | cons {p:Nat} {l:List (Nat×Nat)} (h:au s p≠0) (t:jd s (p+au s p) l):jd s p ((p,p+au s p)::l)
theorem jd.le {s:ByteArray} {p:Nat} {l:List (Nat×Nat)} (h:jd s p l):p≤s.size:=by
 induction h with
 | nil=>exact Nat.le_refl _
 | @cons p l h t ih=>omega
theorem jd.first {s:ByteArray} {p:Nat} {l:List (Nat×Nat)} (h:jd s p l):(match l[0]? with | some x=>x.1 | none=>s.size)=p:=by
 cases h with
 | nil=>rfl
 | cons=>rfl
theorem jd.drop {s:ByteArray} {p:Nat} {l:List (Nat×Nat)} (h:jd s p l):∀ k,k≤l.length→∃ q,jd s q (l.drop k):=by
 induction h with
 | nil=>intro k hk;exact ⟨_,by rw [List.drop_nil];exact .nil⟩
 | @cons p l h t ih =>
   intro k hk
   cases k with
   | zero=>exact ⟨_,.cons h t⟩
   | succ k=>exact ih k (by simpa using hk)
end Go.Proofs.YtiefeajappjnbaaGreatDoor

/- The library's valid UTF-8 (utf8.ValidString) is the plain function validS. No program here. -/
namespace Go.Proofs.YtiefeajappjnbaaGreatDoor
open Go.RowKit
theorem pM (least c:Int):bi least c=true↔c<least∨1114111<c∨(55296≤c∧c<57344):=by
 unfold bi
 simp only [Bool.or_eq_true,Bool.and_eq_true,decide_eq_true_eq]
 omega
theorem dW {s:ByteArray} {p n:Nat} {least c0 c:Int} (h:au s p=0) (hl:cv (ah s p)=(n,least,c0)) (hn:n≠0) (hs:p+n≤s.size) (hc:aR s p c0 (n-1)=some c):c<least∨1114111<c∨(55296≤c∧c<57344):=by
 have h1:=cL hl hn hs hc
 by_cases ho:bi least c=true
 ·exact (pM _ _).1 ho
 ·rw [if_neg ho,h] at h1
  exact absurd h1.symm hn
set_option maxHeartbeats 3200000 in
theorem rQ {s:ByteArray} {p:Nat} (hp:p<s.size) (h:au s p=0):Utf8.decode s p=(65533,1):=by
 have hB:=az s p
 have G0:=b6 s p hp
 rw [Lib.decode_at]
 have hcase:ah s p<128∨(194≤ah s p∧ah s p<224)∨(224≤ah s p∧ah s p<240)∨(240≤ah s p∧ah s p<245)∨((128≤ah s p∧ah s p<194)∨245≤ah s p):=by omega
 rcases hcase with g | g | g | g | g
 ·have:=dW h (sR g) (by decide) (by omega) rfl
  omega
 ·have hl:=pT g
  by_cases hs:p+2≤s.size
  ·have G1:=b6 s (p+1) (by omega)
   by_cases h1:128≤ah s (p+1)∧ah s (p+1)<192
   ·have c1:=aK (s:=s) (p:=p) (k:=0) (c:=ah s p-192) rfl h1.1 h1.2
    have:=dW h hl (by decide) hs c1
    simp only [Nat.zero_add] at this
    omega
   ·have B1:=az s (p+1)
    generalize (s.get! p).toNat=b0 at *
    generalize (s.get! (p+1)).toNat=b1 at *
    generalize (s.get! (p+2)).toNat=b2 at *
    generalize (s.get! (p+3)).toNat=b3 at *
    unfold Lib.decodeN
    rw [if_neg (by omega),if_neg (by omega),if_neg (by omega),if_neg (by omega)]
  ·generalize (s.get! p).toNat=b0 at *
   generalize (s.get! (p+1)).toNat=b1 at *
   generalize (s.get! (p+2)).toNat=b2 at *
   generalize (s.get! (p+3)).toNat=b3 at *
   unfold Lib.decodeN
   rw [if_neg (by omega),if_neg (by omega),if_neg (by omega),if_neg (by omega)]
 ·have hl:=pS g
  by_cases hs:p+3≤s.size
  ·have G1:=b6 s (p+1) (by omega)
   have G2:=b6 s (p+2) (by omega)
   by_cases h1:(128≤ah s (p+1)∧ah s (p+1)<192)∧(128≤ah s (p+2)∧ah s (p+2)<192)
   ·have c1:=aK (s:=s) (p:=p) (k:=0) (c:=ah s p-224) rfl h1.1.1 h1.1.2
    have c2:=aK c1 h1.2.1 h1.2.2
    have ho:=dW h hl (by decide) hs c2
    simp only [Nat.zero_add] at ho
    rw [show p+(1+1)=p+2 from rfl] at ho
    generalize (s.get! p).toNat=b0 at *
    generalize (s.get! (p+1)).toNat=b1 at *
    generalize (s.get! (p+2)).toNat=b2 at *
    generalize (s.get! (p+3)).toNat=b3 at *
    unfold Lib.decodeN
    rw [if_neg (by omega),if_neg (by omega),if_pos (by omega),if_neg (by omega)]
   ·have B1:=az s (p+1)
    have B2:=az s (p+2)
    generalize (s.get! p).toNat=b0 at *
    generalize (s.get! (p+1)).toNat=b1 at *
    generalize (s.get! (p+2)).toNat=b2 at *
    generalize (s.get! (p+3)).toNat=b3 at *
    unfold Lib.decodeN
    rw [if_neg (by omega),if_neg (by omega),if_neg (by omega),if_neg (by omega)]
  ·generalize (s.get! p).toNat=b0 at *
   generalize (s.get! (p+1)).toNat=b1 at *
   generalize (s.get! (p+2)).toNat=b2 at *
   generalize (s.get! (p+3)).toNat=b3 at *
   unfold Lib.decodeN
   rw [if_neg (by omega),if_neg (by omega),if_neg (by omega),if_neg (by omega)]
 ·have hl:=pR g
  by_cases hs:p+4≤s.size
  ·have G1:=b6 s (p+1) (by omega)
   have G2:=b6 s (p+2) (by omega)
   have G3:=b6 s (p+3) (by omega)
   by_cases h1:(128≤ah s (p+1)∧ah s (p+1)<192)∧(128≤ah s (p+2)∧ah s (p+2)<192)∧(128≤ah s (p+3)∧ah s (p+3)<192)
   ·have c1:=aK (s:=s) (p:=p) (k:=0) (c:=ah s p-240) rfl h1.1.1 h1.1.2
    have c2:=aK c1 h1.2.1.1 h1.2.1.2
    have c3:=aK c2 h1.2.2.1 h1.2.2.2
    have ho:=dW h hl (by decide) hs c3
    simp only [Nat.zero_add] at ho
    rw [show p+(1+1)=p+2 from rfl,show p+(1+1+1)=p+3 from rfl] at ho
    generalize (s.get! p).toNat=b0 at *
    generalize (s.get! (p+1)).toNat=b1 at *
    generalize (s.get! (p+2)).toNat=b2 at *
    generalize (s.get! (p+3)).toNat=b3 at *
    unfold Lib.decodeN
    rw [if_neg (by omega),if_neg (by omega),if_neg (by omega),if_pos (by omega),if_neg (by omega)]
   ·have B1:=az s (p+1)
    have B2:=az s (p+2)
    have B3:=az s (p+3)
    generalize (s.get! p).toNat=b0 at *
    generalize (s.get! (p+1)).toNat=b1 at *
    generalize (s.get! (p+2)).toNat=b2 at *
    generalize (s.get! (p+3)).toNat=b3 at *
    unfold Lib.decodeN
    rw [if_neg (by omega),if_neg (by omega),if_neg (by omega),if_neg (by omega)]
  ·generalize (s.get! p).toNat=b0 at *
   generalize (s.get! (p+1)).toNat=b1 at *
   generalize (s.get! (p+2)).toNat=b2 at *
   generalize (s.get! (p+3)).toNat=b3 at *
   unfold Lib.decodeN
   rw [if_neg (by omega),if_neg (by omega),if_neg (by omega),if_neg (by omega)]
 ·generalize (s.get! p).toNat=b0 at *
  generalize (s.get! (p+1)).toNat=b1 at *
  generalize (s.get! (p+2)).toNat=b2 at *
  generalize (s.get! (p+3)).toNat=b3 at *
  unfold Lib.decodeN
  repeat' split
  all_goals first
   | rfl
   | (exfalso;omega)
theorem qt {s:ByteArray} {p:Nat} (h:au s p≠0):¬ ((Utf8.decode s p).1=65533∧(Utf8.decode s p).2=1):=by
 rintro ⟨h1,h2⟩
 have h3:=jc h
 rw [h2] at h3
 obtain ⟨e,hs,hb,_⟩:=eU h
 have hB:=az s p
 have G0:=b6 s p (by omega)
 by_cases g:ah s p<128
 ·rw [Lib.decode_at] at h1
  unfold Lib.decodeN at h1
  rw [if_pos (by omega)] at h1
  simp only at h1
  omega
 ·have hcase:(194≤ah s p∧ah s p<224)∨(224≤ah s p∧ah s p<240)∨(240≤ah s p∧ah s p<245)∨245≤ah s p:=by omega
  rcases hcase with g | g | g | g
  ·rw [pT g] at e;simp only at e;omega
  ·rw [pS g] at e;simp only at e;omega
  ·rw [pR g] at e;simp only at e;omega
  ·exact h (fB (.inr g))
theorem oJ (s:ByteArray) (p:Nat):(⟨(s.data.toList.drop p).toArray⟩:ByteArray)=s.extract p s.size:=by
 apply ByteArray.ext
 rw [ByteArray.data_extract]
 apply Array.ext'
 rw [Array.toList_extract]
 simp only [List.extract_eq_take_drop]
 rw [List.take_of_length_le]
 rw [List.length_drop,Array.length_toList]
 exact Nat.le_refl _
theorem oN (s:ByteArray) (p:Nat):Lib.decodeL (s.data.toList.drop p)=Utf8.decode s p:=by
 unfold Lib.decodeL
 rw [oJ,Lib.tail_decode,Nat.add_zero]
theorem kI (s:ByteArray):∀ (f p:Nat),s.size-p≤f→p≤s.size→Lib.validD (s.data.toList.drop p)=ct s (s.size-p) p
 | 0,p,h,hp=>by
   have hl:s.data.toList.length=s.size:=by rw [Array.length_toList];rfl
   rw [List.drop_of_length_le (by omega),show s.size-p=0 by omega]
   rfl
 | f+1,p,h,hp=>by
   have hl:s.data.toList.length=s.size:=by rw [Array.length_toList];rfl
   by_cases he:p=s.size
   ·rw [List.drop_of_length_le (by omega),show s.size-p=0 by omega]
    rfl
   ·have hne:s.data.toList.drop p≠[]:=by
     intro e
     have:=congrArg List.length e
     rw [List.length_drop,hl] at this
     simp at this
     omega
    rw [Lib.validD_step _ hne,oN]
    by_cases hc:au s p=0
    ·rw [rQ (by omega) hc,if_pos ⟨rfl,rfl⟩,gu s p (by omega) hc]
    ·obtain ⟨_,hs,_,_⟩:=eU hc
     rw [if_neg (qt hc),jc hc,List.drop_drop,kI s f (p+au s p) (by omega) hs,cz s p _ (by omega) rfl hc]
theorem mX (s:ByteArray):Lib.validD s.data.toList=validS s:=by
 have:=kI s s.size 0 (by omega) (by omega)
 rw [List.drop_zero,Nat.sub_zero] at this
 exact this
end Go.Proofs.YtiefeajappjnbaaGreatDoor

/- The reference's Bad (datakitref35): below 0 just where the string is valid. -/
namespace Go.Proofs.YtiefeajappjnbaaGreatDoor
open Go.RowKit
def yN (s:ByteArray) (w:World) (e:Ending) (w':World):Prop:=∃ k:Int,e=.returned (.int .i64 k)∧(k<0↔validS s=true)∧∃ m,w'=w.drewN m
theorem dA {s:ByteArray} {w:World} {p:Nat} {m:Nat} (hp:p<s.size) (hr:ct s (s.size-p) p=validS s) (hc:au s p=0):yN s w (.returned (.int .i64 (p:Int))) (w.drewN m):=by
 refine ⟨p,rfl,⟨fun h=>by omega,fun h=>?_⟩,m,rfl⟩
 rw [← hr,gu s p hp hc] at h
 cases h
set_option maxRecDepth 100000 in
set_option maxHeartbeats 3200000 in
theorem Dy (s:ByteArray) (w:World) (hs:s.size≤1099511627776):Calls Tryz.prog 160 #[.string s] w (yN s w):=by
 go_enter Tryz.func160,Tryz.ntmps160
 go_wp2_with fail
 go_loopw [3] (fun i wr=>∃ p:Nat,p≤s.size∧i=.int .i64 p∧ct s (s.size-p) p=validS s∧∃ m,wr=w.drewN m) (fun i _=>s.size-(intOf i).toNat)
 case atStart=>exact ⟨0,by omega,rfl,rfl,0,rfl⟩
 case round =>
  obtain ⟨p,hp,rfl,hr,m,rfl⟩:=hrel
  have HR:=Hd hr
  clear hr
  by_cases hlt:p<s.size
  ·have hb0:=bI s p hlt
   obtain ⟨hb1,hb2⟩:=az s p
   have hcls:ah s p<128∨(194≤ah s p∧ah s p<224)∨(224≤ah s p∧ah s p<240)∨(240≤ah s p∧ah s p<245)∨(128≤ah s p∧ah s p<194)∨245≤ah s p:=by omega
   rcases hcls with h1 | ⟨h1,h2⟩ | ⟨h1,h2⟩ | ⟨h1,h2⟩ | ⟨h1,h2⟩ | h1
   ·have hl:cv (ah s p)=(1,0,ah s p):=sR h1
    have HL:=Hd hl
    clear hl
    go_wp2_with fail
    go_quiet (fail)
    go_wp2_with fail
    go_simp
    go_loopw [6,7] (fun c i wr=>∃ (d:Int) (k:Nat),k+1≤1∧i=.int .i64 ((k:Int)+1)∧c=.int .i64 d∧0≤d∧((k=0∧d≤127)∨(k=1∧d≤8191)∨(k=2∧d≤524287)∨(k=3∧d≤33554431))∧aR s p (ah s p) k=some d∧∃ q,wr=w.drewN q) (fun _ i _=>1-(intOf i).toNat)
    case atStart=>exact ⟨_,0,by omega,by simp,rfl,by omega,by omega,rfl,_,rfl⟩
    case round =>
     obtain ⟨d,k,hk,rfl,rfl,hd0,hd1,hc,q,rfl⟩:=hrel
     have HC:=Hd hc
     clear hc
     obtain rfl:k=0:=by omega
     have hd9:d≤33554431:=by omega
     by_cases ho:d<0∨1114111<d∨(55296≤d∧d<57344)
     ·have HX:=Hd (show au s p=0 by rw [cL HL.out (by omega) (by omega) HC.out,if_pos (bq ho)])
      rcases ho with ho | ho | ⟨ho,ho2⟩
      all_goals
       go_wp2_with fail
       all_goals
        go_ret
        exact dA hlt HR.out HX.out
     ·have HX:=Hd (show au s p=1 by rw [cL HL.out (by omega) (by omega) HC.out,if_neg (by rw [cC (by omega) (by omega) (by omega)];simp)])
      go_wp2_with fail
      all_goals
       go_roundw
       case rel=>exact ⟨p+1,by omega,by go_num,by rw [← HR.out];exact (cz s p 1 hlt HX.out (by omega)).symm,_,rfl⟩
       case measure=>simp [intOf];omega
   ·have hl:cv (ah s p)=(2,128,ah s p-192):=pT ⟨h1,h2⟩
    have HL:=Hd hl
    clear hl
    by_cases hsz:p+2≤s.size
    ·go_wp2_with fail
     go_quiet (fail)
     go_wp2_with fail
     go_simp
     go_loopw [6,7] (fun c i wr=>∃ (d:Int) (k:Nat),k+1≤2∧i=.int .i64 ((k:Int)+1)∧c=.int .i64 d∧0≤d∧((k=0∧d≤127)∨(k=1∧d≤8191)∨(k=2∧d≤524287)∨(k=3∧d≤33554431))∧aR s p (ah s p-192) k=some d∧∃ q,wr=w.drewN q) (fun _ i _=>2-(intOf i).toNat)
     case atStart=>exact ⟨_,0,by omega,by simp,rfl,by omega,by omega,rfl,_,rfl⟩
     case round =>
      obtain ⟨d,k,hk,rfl,rfl,hd0,hd1,hc,q,rfl⟩:=hrel
      have HC:=Hd hc
      clear hc
      by_cases hkn:k+1<2
      ·have hlt2:p+(k+1)<s.size:=by omega
       have hb3:=bI s (p+(k+1)) hlt2
       obtain ⟨hb4,hb5⟩:=az s (p+(k+1))
       by_cases hc1:ah s (p+(k+1))<128
       ·have HX:=Hd (dH HL.out (by omega) (b8 HC.out (.inl hc1)))
        go_wp2_with fail
        go_ret
        exact dA hlt HR.out HX.out
       ·by_cases hc2:192≤ah s (p+(k+1))
        ·have HX:=Hd (dH HL.out (by omega) (b8 HC.out (.inr hc2)))
         go_wp2_with fail
         go_ret
         exact dA hlt HR.out HX.out
        ·have HY:=Hd (aK HC.out (by omega) (by omega))
         go_wp2_with fail
         go_roundw
         case rel=>exact ⟨_,k+1,by omega,by go_num,rfl,by omega,by omega,HY.out,_,rfl⟩
         case measure=>simp [intOf];omega
      ·obtain rfl:k=1:=by omega
       clear hkn
       have hd9:d≤33554431:=by omega
       by_cases ho:d<128∨1114111<d∨(55296≤d∧d<57344)
       ·have HX:=Hd (show au s p=0 by rw [cL HL.out (by omega) (by omega) HC.out,if_pos (bq ho)])
        rcases ho with ho | ho | ⟨ho,ho2⟩
        all_goals
         go_wp2_with fail
         all_goals
          go_ret
          exact dA hlt HR.out HX.out
       ·have HX:=Hd (show au s p=2 by rw [cL HL.out (by omega) (by omega) HC.out,if_neg (by rw [cC (by omega) (by omega) (by omega)];simp)])
        go_wp2_with fail
        all_goals
         go_roundw
         case rel=>exact ⟨p+2,by omega,by go_num,by rw [← HR.out];exact (cz s p 2 hlt HX.out (by omega)).symm,_,rfl⟩
         case measure=>simp [intOf];omega
    ·have HX:=Hd (gG HL.out (by omega))
     go_wp2_with fail
     go_quiet (fail)
     go_wp2_with fail
     go_ret
     exact dA hlt HR.out HX.out
   ·have hl:cv (ah s p)=(3,2048,ah s p-224):=pS ⟨h1,h2⟩
    have HL:=Hd hl
    clear hl
    by_cases hsz:p+3≤s.size
    ·go_wp2_with fail
     go_quiet (fail)
     go_wp2_with fail
     go_simp
     go_loopw [6,7] (fun c i wr=>∃ (d:Int) (k:Nat),k+1≤3∧i=.int .i64 ((k:Int)+1)∧c=.int .i64 d∧0≤d∧((k=0∧d≤127)∨(k=1∧d≤8191)∨(k=2∧d≤524287)∨(k=3∧d≤33554431))∧aR s p (ah s p-224) k=some d∧∃ q,wr=w.drewN q) (fun _ i _=>3-(intOf i).toNat)
     case atStart=>exact ⟨_,0,by omega,by simp,rfl,by omega,by omega,rfl,_,rfl⟩
     case round =>
      obtain ⟨d,k,hk,rfl,rfl,hd0,hd1,hc,q,rfl⟩:=hrel
      have HC:=Hd hc
      clear hc
      by_cases hkn:k+1<3
      ·have hlt2:p+(k+1)<s.size:=by omega
       have hb3:=bI s (p+(k+1)) hlt2
       obtain ⟨hb4,hb5⟩:=az s (p+(k+1))
       by_cases hc1:ah s (p+(k+1))<128
       ·have HX:=Hd (dH HL.out (by omega) (b8 HC.out (.inl hc1)))
        go_wp2_with fail
        go_ret
        exact dA hlt HR.out HX.out
       ·by_cases hc2:192≤ah s (p+(k+1))
        ·have HX:=Hd (dH HL.out (by omega) (b8 HC.out (.inr hc2)))
         go_wp2_with fail
         go_ret
         exact dA hlt HR.out HX.out
        ·have HY:=Hd (aK HC.out (by omega) (by omega))
         go_wp2_with fail
         go_roundw
         case rel=>exact ⟨_,k+1,by omega,by go_num,rfl,by omega,by omega,HY.out,_,rfl⟩
         case measure=>simp [intOf];omega
      ·obtain rfl:k=2:=by omega
       clear hkn
       have hd9:d≤33554431:=by omega
       by_cases ho:d<2048∨1114111<d∨(55296≤d∧d<57344)
       ·have HX:=Hd (show au s p=0 by rw [cL HL.out (by omega) (by omega) HC.out,if_pos (bq ho)])
        rcases ho with ho | ho | ⟨ho,ho2⟩
        all_goals
         go_wp2_with fail
         all_goals
          go_ret
          exact dA hlt HR.out HX.out
       ·have HX:=Hd (show au s p=3 by rw [cL HL.out (by omega) (by omega) HC.out,if_neg (by rw [cC (by omega) (by omega) (by omega)];simp)])
        go_wp2_with fail
        all_goals
         go_roundw
         case rel=>exact ⟨p+3,by omega,by go_num,by rw [← HR.out];exact (cz s p 3 hlt HX.out (by omega)).symm,_,rfl⟩
         case measure=>simp [intOf];omega
    ·have HX:=Hd (gG HL.out (by omega))
     go_wp2_with fail
     go_quiet (fail)
     go_wp2_with fail
     go_ret
     exact dA hlt HR.out HX.out
   ·have hl:cv (ah s p)=(4,65536,ah s p-240):=pR ⟨h1,h2⟩
    have HL:=Hd hl
    clear hl
    by_cases hsz:p+4≤s.size
    ·go_wp2_with fail
     go_quiet (fail)
     go_wp2_with fail
     go_simp
     go_loopw [6,7] (fun c i wr=>∃ (d:Int) (k:Nat),k+1≤4∧i=.int .i64 ((k:Int)+1)∧c=.int .i64 d∧0≤d∧((k=0∧d≤127)∨(k=1∧d≤8191)∨(k=2∧d≤524287)∨(k=3∧d≤33554431))∧aR s p (ah s p-240) k=some d∧∃ q,wr=w.drewN q) (fun _ i _=>4-(intOf i).toNat)
     case atStart=>exact ⟨_,0,by omega,by simp,rfl,by omega,by omega,rfl,_,rfl⟩
     case round =>
      obtain ⟨d,k,hk,rfl,rfl,hd0,hd1,hc,q,rfl⟩:=hrel
      have HC:=Hd hc
      clear hc
      by_cases hkn:k+1<4
      ·have hlt2:p+(k+1)<s.size:=by omega
       have hb3:=bI s (p+(k+1)) hlt2
       obtain ⟨hb4,hb5⟩:=az s (p+(k+1))
       by_cases hc1:ah s (p+(k+1))<128
       ·have HX:=Hd (dH HL.out (by omega) (b8 HC.out (.inl hc1)))
        go_wp2_with fail
        go_ret
        exact dA hlt HR.out HX.out
       ·by_cases hc2:192≤ah s (p+(k+1))
        ·have HX:=Hd (dH HL.out (by omega) (b8 HC.out (.inr hc2)))
         go_wp2_with fail
         go_ret
         exact dA hlt HR.out HX.out
        ·have HY:=Hd (aK HC.out (by omega) (by omega))
         go_wp2_with fail
         go_roundw
         case rel=>exact ⟨_,k+1,by omega,by go_num,rfl,by omega,by omega,HY.out,_,rfl⟩
         case measure=>simp [intOf];omega
      ·obtain rfl:k=3:=by omega
       clear hkn
       have hd9:d≤33554431:=by omega
       by_cases ho:d<65536∨1114111<d∨(55296≤d∧d<57344)
       ·have HX:=Hd (show au s p=0 by rw [cL HL.out (by omega) (by omega) HC.out,if_pos (bq ho)])
        rcases ho with ho | ho | ⟨ho,ho2⟩
        all_goals
         go_wp2_with fail
         all_goals
          go_ret
          exact dA hlt HR.out HX.out
       ·have HX:=Hd (show au s p=4 by rw [cL HL.out (by omega) (by omega) HC.out,if_neg (by rw [cC (by omega) (by omega) (by omega)];simp)])
        go_wp2_with fail
        all_goals
         go_roundw
         case rel=>exact ⟨p+4,by omega,by go_num,by rw [← HR.out];exact (cz s p 4 hlt HX.out (by omega)).symm,_,rfl⟩
         case measure=>simp [intOf];omega
    ·have HX:=Hd (gG HL.out (by omega))
     go_wp2_with fail
     go_quiet (fail)
     go_wp2_with fail
     go_ret
     exact dA hlt HR.out HX.out
   ·have HX:=Hd (fB (.inl ⟨h1,h2⟩))
    go_wp2_with fail
    go_quiet (fail)
    go_wp2_with fail
    go_ret
    exact dA hlt HR.out HX.out
   ·have HX:=Hd (fB (.inr h1))
    go_wp2_with fail
    go_quiet (fail)
    go_wp2_with fail
    go_ret
    exact dA hlt HR.out HX.out
  ·have HE:=Hd (show validS s=true by rw [← HR.out];exact gt s p (by omega))
   go_wp2_with fail
   go_ret
   exact ⟨-1,rfl,⟨fun _=>HE.out,fun _=>by omega⟩,m,rfl⟩
end Go.Proofs.YtiefeajappjnbaaGreatDoor
