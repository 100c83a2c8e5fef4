/- The characters of a valid string: where they begin and end. No program here. -/
import Derived.Test.YtiefeajappjnbaaGreatDoorUtf8D
import Derived.Lib.DecodeN
import Derived.Lib.ValidLaws
import Derived.Lib.RuneCountTail
import Derived.Test.YtiefeajappjnbaaGreatDoorGA
import Derived.WalkKit
import Derived.WalkSpells
import Derived.WalkLawsBesides
import Derived.LoopTactic
import Derived.BigQuiet
import Derived.Deep.QuietTactic
import Derived.Lib.Hide
namespace Go.Proofs.YtiefeajappjnbaaGreatDoor
open Go.RowKit
theorem conts_bytes {s:ByteArray} {p:Nat} {c:Int}:∀ {k:Nat} {d:Int},conts s p c k=some d→∀ j,1≤j→j≤k→128≤byteAt s (p+j)∧byteAt s (p+j)<192
 | 0,d,_,j,h1,h2=>by omega
 | k+1,d,h,j,h1,h2=>by
   simp only [conts] at h
   cases hc:conts s p c k with
   | none=>rw [hc] at h;cases h
   | some e =>
     rw [hc] at h
     simp only at h
     by_cases hb:128≤byteAt s (p+(k+1))∧byteAt s (p+(k+1))<192
     ·by_cases hj:j=k+1
      ·rw [hj];exact hb
      ·exact conts_bytes hc j h1 (by omega)
     ·rw [if_neg hb] at h;cases h
theorem charAt_parts {s:ByteArray} {p:Nat} (h:charAt s p≠0):charAt s p=(lead (byteAt s p)).1∧p+charAt s p≤s.size∧(byteAt s p<128∨194≤byteAt s p)∧∀ j,1≤j→j<charAt s p→128≤byteAt s (p+j)∧byteAt s (p+j)<192:=by
 by_cases h1:(lead (byteAt s p)).1=0∨s.size<p+(lead (byteAt s p)).1
 ·exact absurd (by unfold charAt;rw [if_pos h1]) h
 ·cases hc:conts s p (lead (byteAt s p)).2.2 ((lead (byteAt s p)).1-1) with
  | none=>exact absurd (by unfold charAt;rw [if_neg h1,hc]) h
  | some c =>
    by_cases ho:outside (lead (byteAt s p)).2.1 c=true
    ·exact absurd (by unfold charAt;rw [if_neg h1,hc];simp only;rw [if_pos ho]) h
    ·have e:charAt s p=(lead (byteAt s p)).1:=by unfold charAt;rw [if_neg h1,hc];simp only;rw [if_neg ho]
     refine ⟨e,by rw [e];omega,?_,fun j hj1 hj2=>conts_bytes hc j hj1 (by rw [e] at hj2;omega)⟩
     by_cases hb:byteAt s p<128∨194≤byteAt s p
     ·exact hb
     ·rw [lead0 (by omega)] at h1
      exact absurd (Or.inl rfl) h1
def endsF (s:ByteArray):Nat→Nat→List (Nat×Nat)
 | 0,_=>[]
 | f+1,p=>if s.size≤p then [] else (p,p+charAt s p)::endsF s f (p+charAt s p)
theorem endsF_fuel (s:ByteArray):∀ (f p:Nat),s.size-p≤f→okFrom s f p=true→endsF s f p=endsF s (s.size-p) p
 | 0,p,h,_=>by rw [show s.size-p=0 by omega]
 | f+1,p,h,hv=>by
   by_cases hp:s.size≤p
   ·rw [show s.size-p=0 by omega]
    simp [endsF,hp]
   ·obtain ⟨g,hg⟩:∃ g,s.size-p=g+1:=⟨s.size-p-1,by omega⟩
    simp only [okFrom,if_neg hp,Bool.and_eq_true,decide_eq_true_eq] at hv
    have hv2:=hv.2
    rw [okFrom_fuel s f (p+charAt s p) (by omega)] at hv2
    have hv3:okFrom s g (p+charAt s p)=true:=by rw [okFrom_fuel s g (p+charAt s p) (by omega)];exact hv2
    rw [hg]
    simp only [endsF,if_neg hp]
    rw [endsF_fuel s f (p+charAt s p) (by omega) hv.2,endsF_fuel s g (p+charAt s p) (by omega) hv3]
theorem endsF_step {s:ByteArray} {p:Nat} (hp:p<s.size) (hv:okFrom s (s.size-p) p=true) :
 charAt s p≠0∧okFrom s (s.size-(p+charAt s p)) (p+charAt s p)=true∧endsF s (s.size-p) p=(p,p+charAt s p)::endsF s (s.size-(p+charAt s p)) (p+charAt s p):=by
 have h0:charAt s p≠0:=fun h=>by rw [okFrom_bad s p hp h] at hv;cases hv
 have hv2:okFrom s (s.size-(p+charAt s p)) (p+charAt s p)=true:=by rw [← okFrom_step s p _ hp rfl h0];exact hv
 refine ⟨h0,hv2,?_⟩
 obtain ⟨g,hg⟩:∃ g,s.size-p=g+1:=⟨s.size-p-1,by omega⟩
 rw [hg]
 simp only [endsF,if_neg (show ¬ s.size≤p by omega)]
 rw [endsF_fuel s g (p+charAt s p) (by omega) (by rw [okFrom_fuel s g (p+charAt s p) (by omega)];exact hv2)]
def charsD (s:ByteArray):List ByteArray:=(endsF s s.size 0).map fun x=>s.extract x.1 x.2
end Go.Proofs.YtiefeajappjnbaaGreatDoor
/- The model's decoder takes a valid character as long as it is. No program here. -/
namespace Go.Proofs.YtiefeajappjnbaaGreatDoor
open Go.RowKit
theorem get_byte (s:ByteArray) (i:Nat) (h:i<s.size):((s.get! i).toNat:Int)=byteAt s i:=by
 rw [← byteAt_eq s i h]
 cases s with
 | mk d =>
   have h':i<d.size:=h
   show ((d[i]!).toNat:Int)=((d[i]).toNat:Int)
   rw [getElem!_pos d i h']
theorem char_inside {s:ByteArray} {p n:Nat} {least c0 c:Int} (h:charAt s p≠0) (hl:lead (byteAt s p)=(n,least,c0)) (hn:n≠0) (hs:p+n≤s.size) (hc:conts s p c0 (n-1)=some c) :
 least≤c∧c≤1114111∧¬ (55296≤c∧c<57344):=by
 have h1:=charAt_of hl hn hs hc
 by_cases ho:outside least c=true
 ·rw [if_pos ho] at h1;exact absurd h1 h
 ·refine ⟨?_,?_,?_⟩
  ·exact Int.not_lt.1 fun g=>ho (outside_yes (.inl g))
  ·exact Int.not_lt.1 fun g=>ho (outside_yes (.inr (.inl g)))
  ·exact fun g=>ho (outside_yes (.inr (.inr g)))
set_option maxHeartbeats 1600000 in
theorem charAt_decode {s:ByteArray} {p:Nat} (h:charAt s p≠0):(Utf8.decode s p).2=charAt s p:=by
 obtain ⟨e,hs,hb,hc⟩:=charAt_parts h
 have hB:=byteAt_range s p
 have hp:p<s.size:=by omega
 have G0:=get_byte s p hp
 rw [Lib.decode_at]
 have hcase:byteAt s p<128∨(194≤byteAt s p∧byteAt s p<224)∨(224≤byteAt s p∧byteAt s p<240)∨(240≤byteAt s p∧byteAt s p<245)∨245≤byteAt s p:=by omega
 rcases hcase with g | g | g | g | g
 ·have hl:=lead1 g
  rw [hl] at e
  rw [e]
  unfold Lib.decodeN
  rw [if_pos (by omega)]
 ·have hl:=lead2 g
  rw [hl] at e
  simp only at e
  have h1:=hc 1 (by omega) (by omega)
  have G1:=get_byte s (p+1) (by omega)
  rw [e]
  generalize (s.get! p).toNat=b0 at *
  generalize (s.get! (p+1)).toNat=b1 at *
  generalize (s.get! (p+2)).toNat=b2 at *
  generalize (s.get! (p+3)).toNat=b3 at *
  unfold Lib.decodeN
  rw [if_neg (by omega),if_pos (by omega),if_pos (by omega)]
 ·have hl:=lead3 g
  rw [hl] at e
  simp only at e
  have h1:=hc 1 (by omega) (by omega)
  have h2:=hc 2 (by omega) (by omega)
  have G1:=get_byte s (p+1) (by omega)
  have G2:=get_byte s (p+2) (by omega)
  have c1:=conts_yes (s:=s) (p:=p) (k:=0) (c:=byteAt s p-224) rfl h1.1 h1.2
  have c2:=conts_yes c1 h2.1 h2.2
  obtain ⟨o1,o2,o3⟩:=char_inside h hl (by decide) (by omega) c2
  simp only [Nat.zero_add] at o1 o2 o3
  rw [show p+(1+1)=p+2 from rfl] at o1 o2 o3
  rw [e]
  generalize (s.get! p).toNat=b0 at *
  generalize (s.get! (p+1)).toNat=b1 at *
  generalize (s.get! (p+2)).toNat=b2 at *
  generalize (s.get! (p+3)).toNat=b3 at *
  unfold Lib.decodeN
  rw [if_neg (by omega),if_neg (by omega),if_pos (by omega),if_pos (by omega)]
 ·have hl:=lead4 g
  rw [hl] at e
  simp only at e
  have h1:=hc 1 (by omega) (by omega)
  have h2:=hc 2 (by omega) (by omega)
  have h3:=hc 3 (by omega) (by omega)
  have G1:=get_byte s (p+1) (by omega)
  have G2:=get_byte s (p+2) (by omega)
  have G3:=get_byte s (p+3) (by omega)
  have c1:=conts_yes (s:=s) (p:=p) (k:=0) (c:=byteAt s p-240) rfl h1.1 h1.2
  have c2:=conts_yes c1 h2.1 h2.2
  have c3:=conts_yes c2 h3.1 h3.2
  obtain ⟨o1,o2,o3⟩:=char_inside h hl (by decide) (by omega) c3
  simp only [Nat.zero_add] at o1 o2 o3
  rw [show p+(1+1)=p+2 from rfl,show p+(1+1+1)=p+3 from rfl] at o1 o2 o3
  rw [e]
  generalize (s.get! p).toNat=b0 at *
  generalize (s.get! (p+1)).toNat=b1 at *
  generalize (s.get! (p+2)).toNat=b2 at *
  generalize (s.get! (p+3)).toNat=b3 at *
  unfold Lib.decodeN
  rw [if_neg (by omega),if_neg (by omega),if_neg (by omega),if_pos (by omega),if_pos (by omega)]
 ·exact absurd (charAt_0 (.inr g)) h
end Go.Proofs.YtiefeajappjnbaaGreatDoor
/- Parts of a valid string between two of its characters are valid. No program here. -/
namespace Go.Proofs.YtiefeajappjnbaaGreatDoor
open Go.RowKit
theorem byteAt_extract (s:ByteArray) (a b q:Nat) (hb:b≤s.size) (h:a+q<b):byteAt (s.extract a b) q=byteAt s (a+q):=by
 have h1:a+q<s.size:=by omega
 have h2:q<(s.extract a b).size:=by simp;omega
 rw [← byteAt_eq s _ h1,← byteAt_eq _ _ h2]
 rw [ByteArray.getElem_extract]
theorem conts_extract (s:ByteArray) (a b q:Nat) (c:Int) (hb:b≤s.size):∀ k,a+q+k<b→conts (s.extract a b) q c k=conts s (a+q) c k
 | 0,_=>rfl
 | k+1,h=>by
   simp only [conts]
   rw [conts_extract s a b q c hb k (by omega),byteAt_extract s a b _ hb (by omega),show a+(q+(k+1))=a+q+(k+1) by omega]
theorem charAt_extract {s:ByteArray} {a b q:Nat} (hb:b≤s.size) (h0:charAt s (a+q)≠0) (h:a+q+charAt s (a+q)≤b):charAt (s.extract a b) q=charAt s (a+q):=by
 obtain ⟨e,hs,_,_⟩:=charAt_parts h0
 have hq:a+q<b:=by omega
 have hbyte:=byteAt_extract s a b q hb hq
 have hsz:(s.extract a b).size=b-a:=by simp;omega
 have hn:(lead (byteAt s (a+q))).1≠0:=by rw [← e];exact h0
 rw [e] at h hs
 have hc:=conts_extract s a b q (lead (byteAt s (a+q))).2.2 hb ((lead (byteAt s (a+q))).1-1) (by omega)
 unfold charAt
 rw [hbyte,hsz,hc]
 rw [if_neg (show ¬ ((lead (byteAt s (a+q))).1=0∨b-a<q+(lead (byteAt s (a+q))).1) by omega),if_neg (show ¬ ((lead (byteAt s (a+q))).1=0∨s.size<a+q+(lead (byteAt s (a+q))).1) by omega)]
inductive Run (s:ByteArray):Nat→Nat→Prop
 | nil (a:Nat):Run s a a
 | cons {a b:Nat} (h:charAt s a≠0) (t:Run s (a+charAt s a) b):Run s a b
theorem Run.le {s:ByteArray} {a b:Nat} (h:Run s a b):a≤b:=by
 induction h with
 | nil=>omega
 | cons _ _ ih=>omega
theorem Run.valid {s:ByteArray} {a b q c:Nat} (hb:b≤s.size) (hc:a+q=c) (h:Run s c b) (hab:a≤b):okFrom (s.extract a b) ((s.extract a b).size-q) q=true:=by
 have hsz:(s.extract a b).size=b-a:=by simp;omega
 induction h generalizing q with
 | nil c=>exact okFrom_end _ _ (by omega)
 | @cons c b h0 t ih =>
   have hle:=t.le
   have e:=charAt_extract (s:=s) (a:=a) (b:=b) (q:=q) hb (by rw [hc];exact h0) (by rw [hc];exact hle)
   rw [hc] at e
   rw [okFrom_step _ q _ (by rw [hsz];omega) e h0]
   exact ih hb (by omega) hab hsz
theorem Run.validS {s:ByteArray} {a b:Nat} (hb:b≤s.size) (h:Run s a b):validS (s.extract a b)=true:=by
 have:=Run.valid (q:=0) hb (Nat.add_zero a) h h.le
 exact this
end Go.Proofs.YtiefeajappjnbaaGreatDoor
/- The characters of a valid string,joined: the part from the first one to the last one. No program here. -/
namespace Go.Proofs.YtiefeajappjnbaaGreatDoor
open Go.RowKit
def spansD (s:ByteArray):List (Nat×Nat):=endsF s s.size 0
def posD (s:ByteArray) (k:Nat):Nat:=match (spansD s)[k]? with
 | some x=>x.1
 | none=>s.size
inductive Spans (s:ByteArray):Nat→List (Nat×Nat)→Prop
 | nil:Spans s s.size []
 | cons {p:Nat} {l:List (Nat×Nat)} (h:charAt s p≠0) (t:Spans s (p+charAt s p) l):Spans s p ((p,p+charAt s p)::l)
theorem spans_of (s:ByteArray):∀ (f p:Nat),s.size-p≤f→p≤s.size→okFrom s (s.size-p) p=true→Spans s p (endsF s (s.size-p) p)
 | 0,p,h,hp,hv=>by
   obtain rfl:p=s.size:=by omega
   rw [Nat.sub_self]
   exact .nil
 | f+1,p,h,hp,hv=>by
   by_cases hs:p<s.size
   ·obtain ⟨h0,hv2,he⟩:=endsF_step hs hv
    obtain ⟨_,h1,_,_⟩:=charAt_parts h0
    rw [he]
    exact .cons h0 (spans_of s f _ (by omega) h1 hv2)
   ·obtain rfl:p=s.size:=by omega
    rw [Nat.sub_self]
    exact .nil
theorem Spans.le {s:ByteArray} {p:Nat} {l:List (Nat×Nat)} (h:Spans s p l):p≤s.size:=by
 induction h with
 | nil=>exact Nat.le_refl _
 | @cons p l h t ih=>omega
theorem Spans.first {s:ByteArray} {p:Nat} {l:List (Nat×Nat)} (h:Spans s p l):(match l[0]? with | some x=>x.1 | none=>s.size)=p:=by
 cases h with
 | nil=>rfl
 | cons=>rfl
theorem Spans.drop {s:ByteArray} {p:Nat} {l:List (Nat×Nat)} (h:Spans s p l):∀ k,k≤l.length→∃ q,Spans s q (l.drop k):=by
 induction h with
 | nil=>intro k hk;exact ⟨_,by rw [List.drop_nil];exact .nil⟩
 | @cons p l h t ih =>
   intro k hk
   cases k with
   | zero=>exact ⟨_,.cons h t⟩
   | succ k=>exact ih k (by simpa using hk)
theorem spans_all {s:ByteArray} (hv:validS s=true):Spans s 0 (spansD s):=spans_of s s.size 0 (by omega) (by omega) hv
theorem spans_drop {s:ByteArray} (hv:validS s=true) {k:Nat} (hk:k≤(spansD s).length):Spans s (posD s k) ((spansD s).drop k):=by
 obtain ⟨q,hq⟩:=(spans_all hv).drop k hk
 have:=hq.first
 rw [List.getElem?_drop,Nat.add_zero] at this
 have e:posD s k=q:=this
 rw [e];exact hq
theorem pos_end (s:ByteArray):posD s (spansD s).length=s.size:=by
 unfold posD
 rw [List.getElem?_eq_none (Nat.le_refl _)]
theorem pos_zero {s:ByteArray} (hv:validS s=true):posD s 0=0:=(spans_all hv).first
theorem pos_step {s:ByteArray} (hv:validS s=true) {k:Nat} (hk:k<(spansD s).length):charAt s (posD s k)≠0∧(spansD s)[k]=(posD s k,posD s (k+1))∧posD s (k+1)=posD s k+charAt s (posD s k)∧posD s (k+1)≤s.size:=by
 have h:=spans_drop hv (Nat.le_of_lt hk)
 rw [List.drop_eq_getElem_cons hk] at h
 generalize hx:(spansD s)[k]=x at h
 generalize hl:(spansD s).drop (k+1)=l at h
 generalize hp:posD s k=p at h ⊢
 cases h with
 | cons h0 t =>
   have h2:=spans_drop hv (k:=k+1) hk
   rw [hl] at h2
   have e1:=t.first
   have e2:=h2.first
   have e:posD s (k+1)=p+charAt s p:=e2.symm.trans e1
   have:=t.le
   exact ⟨h0,by rw [e],e,by omega⟩
theorem pos_le {s:ByteArray} (hv:validS s=true) {k:Nat} (hk:k≤(spansD s).length):posD s k≤s.size:=(spans_drop hv hk).le
theorem run_pos {s:ByteArray} (hv:validS s=true) {i:Nat}:∀ n,i+n≤(spansD s).length→Run s (posD s i) (posD s (i+n))
 | 0,_=>.nil _
 | n+1,h=>by
   have hr:=run_pos (i:=i+1) hv n (by omega)
   obtain ⟨h0,_,e,_⟩:=pos_step hv (k:=i) (by omega)
   rw [e,show i+1+n=i+(n+1) by omega] at hr
   exact .cons h0 hr
theorem chars_len (s:ByteArray):(charsD s).length=(spansD s).length:=by simp [charsD,spansD]
theorem chars_get {s:ByteArray} (hv:validS s=true) {k:Nat} (hk:k<(charsD s).length):(charsD s)[k]=s.extract (posD s k) (posD s (k+1)):=by
 have hk':k<(spansD s).length:=by rw [← chars_len];exact hk
 obtain ⟨_,h,_⟩:=pos_step hv hk'
 have:(charsD s)[k]=s.extract (spansD s)[k].1 (spansD s)[k].2:=by simp [charsD,spansD]
 rw [this,h]
def joinD (l:List ByteArray):ByteArray:=l.foldr (·++·) ⟨#[]⟩
theorem extract_append (s:ByteArray) {a b c:Nat} (h1:a≤b) (h2:b≤c):s.extract a b++s.extract b c=s.extract a c:=by
 apply ByteArray.ext
 simp [ByteArray.data_extract,Nat.min_eq_left h1,Nat.max_eq_right h2]
theorem extract_none (s:ByteArray) (a:Nat):s.extract a a=⟨#[]⟩:=by
 apply ByteArray.ext
 simp
theorem join_chars {s:ByteArray} (hv:validS s=true) {i:Nat}:∀ n,i+n≤(charsD s).length→joinD (((charsD s).drop i).take n)=s.extract (posD s i) (posD s (i+n))
 | 0,_=>by rw [Nat.add_zero,extract_none];rfl
 | n+1,h=>by
   have hi:i<(charsD s).length:=by omega
   have ih:=join_chars (i:=i+1) hv n (by omega)
   have hi':i<(spansD s).length:=by rw [← chars_len];exact hi
   have hr:=(run_pos (i:=i) hv 1 (by omega)).le
   have hr2:=(run_pos (i:=i+1) hv n (by rw [← chars_len];omega)).le
   rw [List.drop_eq_getElem_cons hi,List.take_succ_cons]
   show (charsD s)[i]++joinD _=_
   rw [ih,chars_get hv hi,extract_append s hr hr2,show i+1+n=i+(n+1) by omega]
theorem join_valid {s:ByteArray} (hv:validS s=true) {i n:Nat} (h:i+n≤(charsD s).length):validS (joinD (((charsD s).drop i).take n))=true∧(joinD (((charsD s).drop i).take n)).size≤s.size:=by
 rw [join_chars hv n h]
 rw [chars_len] at h
 refine ⟨(run_pos hv n h).validS (pos_le hv h),?_⟩
 have:=pos_le hv h
 simp
 omega
theorem chars_count {s:ByteArray} (hv:validS s=true):(charsD s).length≤s.size:=by
 have:∀ {p:Nat} {l:List (Nat×Nat)},Spans s p l→l.length+p≤s.size:=by
  intro p l h
  induction h with
  | nil=>simp
  | @cons p l h t ih=>simp only [List.length_cons];omega
 have:=this (spans_all hv)
 rw [chars_len]
 omega
end Go.Proofs.YtiefeajappjnbaaGreatDoor

/- The library's valid UTF-8 (utf8.ValidString) is the plain function validS. No program here. -/
namespace Go.Proofs.YtiefeajappjnbaaGreatDoor
open Go.RowKit
theorem outside_iff (least c:Int):outside least c=true↔c<least∨1114111<c∨(55296≤c∧c<57344):=by
 unfold outside
 simp only [Bool.or_eq_true,Bool.and_eq_true,decide_eq_true_eq]
 omega
theorem charAt_zero_of {s:ByteArray} {p n:Nat} {least c0 c:Int} (h:charAt s p=0) (hl:lead (byteAt s p)=(n,least,c0)) (hn:n≠0) (hs:p+n≤s.size) (hc:conts s p c0 (n-1)=some c):c<least∨1114111<c∨(55296≤c∧c<57344):=by
 have h1:=charAt_of hl hn hs hc
 by_cases ho:outside least c=true
 ·exact (outside_iff _ _).1 ho
 ·rw [if_neg ho,h] at h1
  exact absurd h1.symm hn
set_option maxHeartbeats 3200000 in
theorem decode_bad {s:ByteArray} {p:Nat} (hp:p<s.size) (h:charAt s p=0):Utf8.decode s p=(65533,1):=by
 have hB:=byteAt_range s p
 have G0:=get_byte s p hp
 rw [Lib.decode_at]
 have hcase:byteAt s p<128∨(194≤byteAt s p∧byteAt s p<224)∨(224≤byteAt s p∧byteAt s p<240)∨(240≤byteAt s p∧byteAt s p<245)∨((128≤byteAt s p∧byteAt s p<194)∨245≤byteAt s p):=by omega
 rcases hcase with g | g | g | g | g
 ·have:=charAt_zero_of h (lead1 g) (by decide) (by omega) rfl
  omega
 ·have hl:=lead2 g
  by_cases hs:p+2≤s.size
  ·have G1:=get_byte s (p+1) (by omega)
   by_cases h1:128≤byteAt s (p+1)∧byteAt s (p+1)<192
   ·have c1:=conts_yes (s:=s) (p:=p) (k:=0) (c:=byteAt s p-192) rfl h1.1 h1.2
    have:=charAt_zero_of h hl (by decide) hs c1
    simp only [Nat.zero_add] at this
    omega
   ·have B1:=byteAt_range s (p+1)
    generalize (s.get! p).toNat=b0 at *
    generalize (s.get! (p+1)).toNat=b1 at *
    generalize (s.get! (p+2)).toNat=b2 at *
    generalize (s.get! (p+3)).toNat=b3 at *
    unfold Lib.decodeN
    rw [if_neg (by omega),if_neg (by omega),if_neg (by omega),if_neg (by omega)]
  ·generalize (s.get! p).toNat=b0 at *
   generalize (s.get! (p+1)).toNat=b1 at *
   generalize (s.get! (p+2)).toNat=b2 at *
   generalize (s.get! (p+3)).toNat=b3 at *
   unfold Lib.decodeN
   rw [if_neg (by omega),if_neg (by omega),if_neg (by omega),if_neg (by omega)]
 ·have hl:=lead3 g
  by_cases hs:p+3≤s.size
  ·have G1:=get_byte s (p+1) (by omega)
   have G2:=get_byte s (p+2) (by omega)
   by_cases h1:(128≤byteAt s (p+1)∧byteAt s (p+1)<192)∧(128≤byteAt s (p+2)∧byteAt s (p+2)<192)
   ·have c1:=conts_yes (s:=s) (p:=p) (k:=0) (c:=byteAt s p-224) rfl h1.1.1 h1.1.2
    have c2:=conts_yes c1 h1.2.1 h1.2.2
    have ho:=charAt_zero_of h hl (by decide) hs c2
    simp only [Nat.zero_add] at ho
    rw [show p+(1+1)=p+2 from rfl] at ho
    generalize (s.get! p).toNat=b0 at *
    generalize (s.get! (p+1)).toNat=b1 at *
    generalize (s.get! (p+2)).toNat=b2 at *
    generalize (s.get! (p+3)).toNat=b3 at *
    unfold Lib.decodeN
    rw [if_neg (by omega),if_neg (by omega),if_pos (by omega),if_neg (by omega)]
   ·have B1:=byteAt_range s (p+1)
    have B2:=byteAt_range s (p+2)
    generalize (s.get! p).toNat=b0 at *
    generalize (s.get! (p+1)).toNat=b1 at *
    generalize (s.get! (p+2)).toNat=b2 at *
    generalize (s.get! (p+3)).toNat=b3 at *
    unfold Lib.decodeN
    rw [if_neg (by omega),if_neg (by omega),if_neg (by omega),if_neg (by omega)]
  ·generalize (s.get! p).toNat=b0 at *
   generalize (s.get! (p+1)).toNat=b1 at *
   generalize (s.get! (p+2)).toNat=b2 at *
   generalize (s.get! (p+3)).toNat=b3 at *
   unfold Lib.decodeN
   rw [if_neg (by omega),if_neg (by omega),if_neg (by omega),if_neg (by omega)]
 ·have hl:=lead4 g
  by_cases hs:p+4≤s.size
  ·have G1:=get_byte s (p+1) (by omega)
   have G2:=get_byte s (p+2) (by omega)
   have G3:=get_byte s (p+3) (by omega)
   by_cases h1:(128≤byteAt s (p+1)∧byteAt s (p+1)<192)∧(128≤byteAt s (p+2)∧byteAt s (p+2)<192)∧(128≤byteAt s (p+3)∧byteAt s (p+3)<192)
   ·have c1:=conts_yes (s:=s) (p:=p) (k:=0) (c:=byteAt s p-240) rfl h1.1.1 h1.1.2
    have c2:=conts_yes c1 h1.2.1.1 h1.2.1.2
    have c3:=conts_yes c2 h1.2.2.1 h1.2.2.2
    have ho:=charAt_zero_of h hl (by decide) hs c3
    simp only [Nat.zero_add] at ho
    rw [show p+(1+1)=p+2 from rfl,show p+(1+1+1)=p+3 from rfl] at ho
    generalize (s.get! p).toNat=b0 at *
    generalize (s.get! (p+1)).toNat=b1 at *
    generalize (s.get! (p+2)).toNat=b2 at *
    generalize (s.get! (p+3)).toNat=b3 at *
    unfold Lib.decodeN
    rw [if_neg (by omega),if_neg (by omega),if_neg (by omega),if_pos (by omega),if_neg (by omega)]
   ·have B1:=byteAt_range s (p+1)
    have B2:=byteAt_range s (p+2)
    have B3:=byteAt_range s (p+3)
    generalize (s.get! p).toNat=b0 at *
    generalize (s.get! (p+1)).toNat=b1 at *
    generalize (s.get! (p+2)).toNat=b2 at *
    generalize (s.get! (p+3)).toNat=b3 at *
    unfold Lib.decodeN
    rw [if_neg (by omega),if_neg (by omega),if_neg (by omega),if_neg (by omega)]
  ·generalize (s.get! p).toNat=b0 at *
   generalize (s.get! (p+1)).toNat=b1 at *
   generalize (s.get! (p+2)).toNat=b2 at *
   generalize (s.get! (p+3)).toNat=b3 at *
   unfold Lib.decodeN
   rw [if_neg (by omega),if_neg (by omega),if_neg (by omega),if_neg (by omega)]
 ·generalize (s.get! p).toNat=b0 at *
  generalize (s.get! (p+1)).toNat=b1 at *
  generalize (s.get! (p+2)).toNat=b2 at *
  generalize (s.get! (p+3)).toNat=b3 at *
  unfold Lib.decodeN
  repeat' split
  all_goals first
   | rfl
   | (exfalso;omega)
theorem decode_good {s:ByteArray} {p:Nat} (h:charAt s p≠0):¬ ((Utf8.decode s p).1=65533∧(Utf8.decode s p).2=1):=by
 rintro ⟨h1,h2⟩
 have h3:=charAt_decode h
 rw [h2] at h3
 obtain ⟨e,hs,hb,_⟩:=charAt_parts h
 have hB:=byteAt_range s p
 have G0:=get_byte s p (by omega)
 by_cases g:byteAt s p<128
 ·rw [Lib.decode_at] at h1
  unfold Lib.decodeN at h1
  rw [if_pos (by omega)] at h1
  simp only at h1
  omega
 ·have hcase:(194≤byteAt s p∧byteAt s p<224)∨(224≤byteAt s p∧byteAt s p<240)∨(240≤byteAt s p∧byteAt s p<245)∨245≤byteAt s p:=by omega
  rcases hcase with g | g | g | g
  ·rw [lead2 g] at e;simp only at e;omega
  ·rw [lead3 g] at e;simp only at e;omega
  ·rw [lead4 g] at e;simp only at e;omega
  ·exact h (charAt_0 (.inr g))
theorem drop_extract (s:ByteArray) (p:Nat):(⟨(s.data.toList.drop p).toArray⟩:ByteArray)=s.extract p s.size:=by
 apply ByteArray.ext
 rw [ByteArray.data_extract]
 apply Array.ext'
 rw [Array.toList_extract]
 simp only [List.extract_eq_take_drop]
 rw [List.take_of_length_le]
 rw [List.length_drop,Array.length_toList]
 exact Nat.le_refl _
theorem decodeL_drop (s:ByteArray) (p:Nat):Lib.decodeL (s.data.toList.drop p)=Utf8.decode s p:=by
 unfold Lib.decodeL
 rw [drop_extract,Lib.tail_decode,Nat.add_zero]
theorem validD_from (s:ByteArray):∀ (f p:Nat),s.size-p≤f→p≤s.size→Lib.validD (s.data.toList.drop p)=okFrom s (s.size-p) p
 | 0,p,h,hp=>by
   have hl:s.data.toList.length=s.size:=by rw [Array.length_toList];rfl
   rw [List.drop_of_length_le (by omega),show s.size-p=0 by omega]
   rfl
 | f+1,p,h,hp=>by
   have hl:s.data.toList.length=s.size:=by rw [Array.length_toList];rfl
   by_cases he:p=s.size
   ·rw [List.drop_of_length_le (by omega),show s.size-p=0 by omega]
    rfl
   ·have hne:s.data.toList.drop p≠[]:=by
     intro e
     have:=congrArg List.length e
     rw [List.length_drop,hl] at this
     simp at this
     omega
    rw [Lib.validD_step _ hne,decodeL_drop]
    by_cases hc:charAt s p=0
    ·rw [decode_bad (by omega) hc,if_pos ⟨rfl,rfl⟩,okFrom_bad s p (by omega) hc]
    ·obtain ⟨_,hs,_,_⟩:=charAt_parts hc
     rw [if_neg (decode_good hc),charAt_decode hc,List.drop_drop,validD_from s f (p+charAt s p) (by omega) hs,okFrom_step s p _ (by omega) rfl hc]
theorem validD_eq (s:ByteArray):Lib.validD s.data.toList=validS s:=by
 have:=validD_from s s.size 0 (by omega) (by omega)
 rw [List.drop_zero,Nat.sub_zero] at this
 exact this
end Go.Proofs.YtiefeajappjnbaaGreatDoor

/- The reference's Bad (datakitref35): below 0 just where the string is valid. -/
namespace Go.Proofs.YtiefeajappjnbaaGreatDoor
open Go.RowKit
def BadInt (s:ByteArray) (w:World) (e:Ending) (w':World):Prop:=∃ k:Int,e=.returned (.int .i64 k)∧(k<0↔validS s=true)∧∃ m,w'=w.drewN m
theorem bad_at {s:ByteArray} {w:World} {p:Nat} {m:Nat} (hp:p<s.size) (hr:okFrom s (s.size-p) p=validS s) (hc:charAt s p=0):BadInt s w (.returned (.int .i64 (p:Int))) (w.drewN m):=by
 refine ⟨p,rfl,⟨fun h=>by omega,fun h=>?_⟩,m,rfl⟩
 rw [← hr,okFrom_bad s p hp hc] at h
 cases h
set_option maxRecDepth 100000 in
set_option maxHeartbeats 3200000 in
theorem bad35 (s:ByteArray) (w:World) (hs:s.size≤1099511627776):Calls Tryz.prog 160 #[.string s] w (BadInt s w):=by
 go_enter Tryz.func160,Tryz.ntmps160
 go_wp2_with fail
 go_loopw [3] (fun i wr=>∃ p:Nat,p≤s.size∧i=.int .i64 p∧okFrom s (s.size-p) p=validS s∧∃ m,wr=w.drewN m) (fun i _=>s.size-(intOf i).toNat)
 case atStart=>exact ⟨0,by omega,rfl,rfl,0,rfl⟩
 case round =>
  obtain ⟨p,hp,rfl,hr,m,rfl⟩:=hrel
  have HR:=Hd hr
  clear hr
  by_cases hlt:p<s.size
  ·have hb0:=byteAt_eq s p hlt
   obtain ⟨hb1,hb2⟩:=byteAt_range s p
   have hcls:byteAt s p<128∨(194≤byteAt s p∧byteAt s p<224)∨(224≤byteAt s p∧byteAt s p<240)∨(240≤byteAt s p∧byteAt s p<245)∨(128≤byteAt s p∧byteAt s p<194)∨245≤byteAt s p:=by omega
   rcases hcls with h1 | ⟨h1,h2⟩ | ⟨h1,h2⟩ | ⟨h1,h2⟩ | ⟨h1,h2⟩ | h1
   ·have hl:lead (byteAt s p)=(1,0,byteAt s p):=lead1 h1
    have HL:=Hd hl
    clear hl
    go_wp2_with fail
    go_quiet (fail)
    go_wp2_with fail
    go_simp
    go_loopw [6,7] (fun c i wr=>∃ (d:Int) (k:Nat),k+1≤1∧i=.int .i64 ((k:Int)+1)∧c=.int .i64 d∧0≤d∧((k=0∧d≤127)∨(k=1∧d≤8191)∨(k=2∧d≤524287)∨(k=3∧d≤33554431))∧conts s p (byteAt s p) k=some d∧∃ q,wr=w.drewN q) (fun _ i _=>1-(intOf i).toNat)
    case atStart=>exact ⟨_,0,by omega,by simp,rfl,by omega,by omega,rfl,_,rfl⟩
    case round =>
     obtain ⟨d,k,hk,rfl,rfl,hd0,hd1,hc,q,rfl⟩:=hrel
     have HC:=Hd hc
     clear hc
     obtain rfl:k=0:=by omega
     have hd9:d≤33554431:=by omega
     by_cases ho:d<0∨1114111<d∨(55296≤d∧d<57344)
     ·have HX:=Hd (show charAt s p=0 by rw [charAt_of HL.out (by omega) (by omega) HC.out,if_pos (outside_yes ho)])
      rcases ho with ho | ho | ⟨ho,ho2⟩
      all_goals
       go_wp2_with fail
       all_goals
        go_ret
        exact bad_at hlt HR.out HX.out
     ·have HX:=Hd (show charAt s p=1 by rw [charAt_of HL.out (by omega) (by omega) HC.out,if_neg (by rw [outside_no (by omega) (by omega) (by omega)];simp)])
      go_wp2_with fail
      all_goals
       go_roundw
       case rel=>exact ⟨p+1,by omega,by go_num,by rw [← HR.out];exact (okFrom_step s p 1 hlt HX.out (by omega)).symm,_,rfl⟩
       case measure=>simp [intOf];omega
   ·have hl:lead (byteAt s p)=(2,128,byteAt s p-192):=lead2 ⟨h1,h2⟩
    have HL:=Hd hl
    clear hl
    by_cases hsz:p+2≤s.size
    ·go_wp2_with fail
     go_quiet (fail)
     go_wp2_with fail
     go_simp
     go_loopw [6,7] (fun c i wr=>∃ (d:Int) (k:Nat),k+1≤2∧i=.int .i64 ((k:Int)+1)∧c=.int .i64 d∧0≤d∧((k=0∧d≤127)∨(k=1∧d≤8191)∨(k=2∧d≤524287)∨(k=3∧d≤33554431))∧conts s p (byteAt s p-192) k=some d∧∃ q,wr=w.drewN q) (fun _ i _=>2-(intOf i).toNat)
     case atStart=>exact ⟨_,0,by omega,by simp,rfl,by omega,by omega,rfl,_,rfl⟩
     case round =>
      obtain ⟨d,k,hk,rfl,rfl,hd0,hd1,hc,q,rfl⟩:=hrel
      have HC:=Hd hc
      clear hc
      by_cases hkn:k+1<2
      ·have hlt2:p+(k+1)<s.size:=by omega
       have hb3:=byteAt_eq s (p+(k+1)) hlt2
       obtain ⟨hb4,hb5⟩:=byteAt_range s (p+(k+1))
       by_cases hc1:byteAt s (p+(k+1))<128
       ·have HX:=Hd (charAt_cont HL.out (by omega) (conts_no HC.out (.inl hc1)))
        go_wp2_with fail
        go_ret
        exact bad_at hlt HR.out HX.out
       ·by_cases hc2:192≤byteAt s (p+(k+1))
        ·have HX:=Hd (charAt_cont HL.out (by omega) (conts_no HC.out (.inr hc2)))
         go_wp2_with fail
         go_ret
         exact bad_at hlt HR.out HX.out
        ·have HY:=Hd (conts_yes HC.out (by omega) (by omega))
         go_wp2_with fail
         go_roundw
         case rel=>exact ⟨_,k+1,by omega,by go_num,rfl,by omega,by omega,HY.out,_,rfl⟩
         case measure=>simp [intOf];omega
      ·obtain rfl:k=1:=by omega
       clear hkn
       have hd9:d≤33554431:=by omega
       by_cases ho:d<128∨1114111<d∨(55296≤d∧d<57344)
       ·have HX:=Hd (show charAt s p=0 by rw [charAt_of HL.out (by omega) (by omega) HC.out,if_pos (outside_yes ho)])
        rcases ho with ho | ho | ⟨ho,ho2⟩
        all_goals
         go_wp2_with fail
         all_goals
          go_ret
          exact bad_at hlt HR.out HX.out
       ·have HX:=Hd (show charAt s p=2 by rw [charAt_of HL.out (by omega) (by omega) HC.out,if_neg (by rw [outside_no (by omega) (by omega) (by omega)];simp)])
        go_wp2_with fail
        all_goals
         go_roundw
         case rel=>exact ⟨p+2,by omega,by go_num,by rw [← HR.out];exact (okFrom_step s p 2 hlt HX.out (by omega)).symm,_,rfl⟩
         case measure=>simp [intOf];omega
    ·have HX:=Hd (charAt_short HL.out (by omega))
     go_wp2_with fail
     go_quiet (fail)
     go_wp2_with fail
     go_ret
     exact bad_at hlt HR.out HX.out
   ·have hl:lead (byteAt s p)=(3,2048,byteAt s p-224):=lead3 ⟨h1,h2⟩
    have HL:=Hd hl
    clear hl
    by_cases hsz:p+3≤s.size
    ·go_wp2_with fail
     go_quiet (fail)
     go_wp2_with fail
     go_simp
     go_loopw [6,7] (fun c i wr=>∃ (d:Int) (k:Nat),k+1≤3∧i=.int .i64 ((k:Int)+1)∧c=.int .i64 d∧0≤d∧((k=0∧d≤127)∨(k=1∧d≤8191)∨(k=2∧d≤524287)∨(k=3∧d≤33554431))∧conts s p (byteAt s p-224) k=some d∧∃ q,wr=w.drewN q) (fun _ i _=>3-(intOf i).toNat)
     case atStart=>exact ⟨_,0,by omega,by simp,rfl,by omega,by omega,rfl,_,rfl⟩
     case round =>
      obtain ⟨d,k,hk,rfl,rfl,hd0,hd1,hc,q,rfl⟩:=hrel
      have HC:=Hd hc
      clear hc
      by_cases hkn:k+1<3
      ·have hlt2:p+(k+1)<s.size:=by omega
       have hb3:=byteAt_eq s (p+(k+1)) hlt2
       obtain ⟨hb4,hb5⟩:=byteAt_range s (p+(k+1))
       by_cases hc1:byteAt s (p+(k+1))<128
       ·have HX:=Hd (charAt_cont HL.out (by omega) (conts_no HC.out (.inl hc1)))
        go_wp2_with fail
        go_ret
        exact bad_at hlt HR.out HX.out
       ·by_cases hc2:192≤byteAt s (p+(k+1))
        ·have HX:=Hd (charAt_cont HL.out (by omega) (conts_no HC.out (.inr hc2)))
         go_wp2_with fail
         go_ret
         exact bad_at hlt HR.out HX.out
        ·have HY:=Hd (conts_yes HC.out (by omega) (by omega))
         go_wp2_with fail
         go_roundw
         case rel=>exact ⟨_,k+1,by omega,by go_num,rfl,by omega,by omega,HY.out,_,rfl⟩
         case measure=>simp [intOf];omega
      ·obtain rfl:k=2:=by omega
       clear hkn
       have hd9:d≤33554431:=by omega
       by_cases ho:d<2048∨1114111<d∨(55296≤d∧d<57344)
       ·have HX:=Hd (show charAt s p=0 by rw [charAt_of HL.out (by omega) (by omega) HC.out,if_pos (outside_yes ho)])
        rcases ho with ho | ho | ⟨ho,ho2⟩
        all_goals
         go_wp2_with fail
         all_goals
          go_ret
          exact bad_at hlt HR.out HX.out
       ·have HX:=Hd (show charAt s p=3 by rw [charAt_of HL.out (by omega) (by omega) HC.out,if_neg (by rw [outside_no (by omega) (by omega) (by omega)];simp)])
        go_wp2_with fail
        all_goals
         go_roundw
         case rel=>exact ⟨p+3,by omega,by go_num,by rw [← HR.out];exact (okFrom_step s p 3 hlt HX.out (by omega)).symm,_,rfl⟩
         case measure=>simp [intOf];omega
    ·have HX:=Hd (charAt_short HL.out (by omega))
     go_wp2_with fail
     go_quiet (fail)
     go_wp2_with fail
     go_ret
     exact bad_at hlt HR.out HX.out
   ·have hl:lead (byteAt s p)=(4,65536,byteAt s p-240):=lead4 ⟨h1,h2⟩
    have HL:=Hd hl
    clear hl
    by_cases hsz:p+4≤s.size
    ·go_wp2_with fail
     go_quiet (fail)
     go_wp2_with fail
     go_simp
     go_loopw [6,7] (fun c i wr=>∃ (d:Int) (k:Nat),k+1≤4∧i=.int .i64 ((k:Int)+1)∧c=.int .i64 d∧0≤d∧((k=0∧d≤127)∨(k=1∧d≤8191)∨(k=2∧d≤524287)∨(k=3∧d≤33554431))∧conts s p (byteAt s p-240) k=some d∧∃ q,wr=w.drewN q) (fun _ i _=>4-(intOf i).toNat)
     case atStart=>exact ⟨_,0,by omega,by simp,rfl,by omega,by omega,rfl,_,rfl⟩
     case round =>
      obtain ⟨d,k,hk,rfl,rfl,hd0,hd1,hc,q,rfl⟩:=hrel
      have HC:=Hd hc
      clear hc
      by_cases hkn:k+1<4
      ·have hlt2:p+(k+1)<s.size:=by omega
       have hb3:=byteAt_eq s (p+(k+1)) hlt2
       obtain ⟨hb4,hb5⟩:=byteAt_range s (p+(k+1))
       by_cases hc1:byteAt s (p+(k+1))<128
       ·have HX:=Hd (charAt_cont HL.out (by omega) (conts_no HC.out (.inl hc1)))
        go_wp2_with fail
        go_ret
        exact bad_at hlt HR.out HX.out
       ·by_cases hc2:192≤byteAt s (p+(k+1))
        ·have HX:=Hd (charAt_cont HL.out (by omega) (conts_no HC.out (.inr hc2)))
         go_wp2_with fail
         go_ret
         exact bad_at hlt HR.out HX.out
        ·have HY:=Hd (conts_yes HC.out (by omega) (by omega))
         go_wp2_with fail
         go_roundw
         case rel=>exact ⟨_,k+1,by omega,by go_num,rfl,by omega,by omega,HY.out,_,rfl⟩
         case measure=>simp [intOf];omega
      ·obtain rfl:k=3:=by omega
       clear hkn
       have hd9:d≤33554431:=by omega
       by_cases ho:d<65536∨1114111<d∨(55296≤d∧d<57344)
       ·have HX:=Hd (show charAt s p=0 by rw [charAt_of HL.out (by omega) (by omega) HC.out,if_pos (outside_yes ho)])
        rcases ho with ho | ho | ⟨ho,ho2⟩
        all_goals
         go_wp2_with fail
         all_goals
          go_ret
          exact bad_at hlt HR.out HX.out
       ·have HX:=Hd (show charAt s p=4 by rw [charAt_of HL.out (by omega) (by omega) HC.out,if_neg (by rw [outside_no (by omega) (by omega) (by omega)];simp)])
        go_wp2_with fail
        all_goals
         go_roundw
         case rel=>exact ⟨p+4,by omega,by go_num,by rw [← HR.out];exact (okFrom_step s p 4 hlt HX.out (by omega)).symm,_,rfl⟩
         case measure=>simp [intOf];omega
    ·have HX:=Hd (charAt_short HL.out (by omega))
     go_wp2_with fail
     go_quiet (fail)
     go_wp2_with fail
     go_ret
     exact bad_at hlt HR.out HX.out
   ·have HX:=Hd (charAt_0 (.inl ⟨h1,h2⟩))
    go_wp2_with fail
    go_quiet (fail)
    go_wp2_with fail
    go_ret
    exact bad_at hlt HR.out HX.out
   ·have HX:=Hd (charAt_0 (.inr h1))
    go_wp2_with fail
    go_quiet (fail)
    go_wp2_with fail
    go_ret
    exact bad_at hlt HR.out HX.out
  ·have HE:=Hd (show validS s=true by rw [← HR.out];exact okFrom_end s p (by omega))
   go_wp2_with fail
   go_ret
   exact ⟨-1,rfl,⟨fun _=>HE.out,fun _=>by omega⟩,m,rfl⟩
end Go.Proofs.YtiefeajappjnbaaGreatDoor
