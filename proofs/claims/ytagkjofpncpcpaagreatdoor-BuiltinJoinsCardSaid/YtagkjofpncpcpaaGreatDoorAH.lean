/- The characters of a valid string: where they begin and end. No program here. -/
import Derived.Test.YtagkjofpncpcpaaGreatDoorProg
import Derived.Test.YtagkjofpncpcpaaGreatDoorGA
import Derived.Test.YtagkjofpncpcpaaGreatDoorUtf8D
import Derived.Test.YtagkjofpncpcpaaGreatDoorU03
import Derived.Test.YtagkjofpncpcpaaGreatDoorGB
import Derived.Test.YtagkjofpncpcpaaGreatDoorShelf
import Derived.Test.YtagkjofpncpcpaaGreatDoorGC
import Derived.Test.YtagkjofpncpcpaaGreatDoorGD
import Derived.Test.YtagkjofpncpcpaaGreatDoorGF
import Derived.Test.YtagkjofpncpcpaaGreatDoorHQ
import Derived.Test.YtagkjofpncpcpaaGreatDoorXE
import Derived.Test.YtagkjofpncpcpaaGreatDoorXK
import Derived.Test.YtagkjofpncpcpaaGreatDoorAD
import Derived.Lib.DecodeN
import Derived.Lib.RuneCountTail
import Derived.Lib.Join
import Derived.Lib.IndexLaws
import Derived.Lib.CountLaws
import Derived.Lib.SplitLaws
import Derived.Lib.CutLaws
import Derived.Maps.AppendAt
namespace Go.Proofs.YtagkjofpncpcpaaGreatDoor
open Go.RowKit
theorem conts_bytes {s:ByteArray} {p:Nat} {c:Int}:∀ {k:Nat} {d:Int},conts s p c k=some d→∀ j,1≤j→j≤k→128≤byteAt s (p+j)∧byteAt s (p+j)<192
 | 0,d,_,j,h1,h2=>by omega
 | k+1,d,h,j,h1,h2=>by
   simp only [conts] at h
   cases hc:conts s p c k with
   | none=>rw [hc] at h;cases h
   | some e =>
     rw [hc] at h
     simp only at h
     by_cases hb:128≤byteAt s (p+(k+1))∧byteAt s (p+(k+1))<192
     ·by_cases hj:j=k+1
      ·rw [hj];exact hb
      ·exact conts_bytes hc j h1 (by omega)
     ·rw [if_neg hb] at h;cases h
theorem charAt_parts {s:ByteArray} {p:Nat} (h:charAt s p≠0):charAt s p=(lead (byteAt s p)).1∧p+charAt s p≤s.size∧(byteAt s p<128∨194≤byteAt s p)∧∀ j,1≤j→j<charAt s p→128≤byteAt s (p+j)∧byteAt s (p+j)<192:=by
 by_cases h1:(lead (byteAt s p)).1=0∨s.size<p+(lead (byteAt s p)).1
 ·exact absurd (by unfold charAt;rw [if_pos h1]) h
 ·cases hc:conts s p (lead (byteAt s p)).2.2 ((lead (byteAt s p)).1-1) with
  | none=>exact absurd (by unfold charAt;rw [if_neg h1,hc]) h
  | some c =>
    by_cases ho:outside (lead (byteAt s p)).2.1 c=true
    ·exact absurd (by unfold charAt;rw [if_neg h1,hc];simp only;rw [if_pos ho]) h
    ·have e:charAt s p=(lead (byteAt s p)).1:=by unfold charAt;rw [if_neg h1,hc];simp only;rw [if_neg ho]
     refine ⟨e,by rw [e];omega,?_,fun j hj1 hj2=>conts_bytes hc j hj1 (by rw [e] at hj2;omega)⟩
     by_cases hb:byteAt s p<128∨194≤byteAt s p
     ·exact hb
     ·rw [lead0 (by omega)] at h1
      exact absurd (Or.inl rfl) h1
def endsF (s:ByteArray):Nat→Nat→List (Nat×Nat)
 | 0,_=>[]
 | f+1,p=>if s.size≤p then [] else (p,p+charAt s p)::endsF s f (p+charAt s p)
theorem endsF_fuel (s:ByteArray):∀ (f p:Nat),s.size-p≤f→okFrom s f p=true→endsF s f p=endsF s (s.size-p) p
 | 0,p,h,_=>by rw [show s.size-p=0 by omega]
 | f+1,p,h,hv=>by
   by_cases hp:s.size≤p
   ·rw [show s.size-p=0 by omega]
    simp [endsF,hp]
   ·obtain ⟨g,hg⟩:∃ g,s.size-p=g+1:=⟨s.size-p-1,by omega⟩
    simp only [okFrom,if_neg hp,Bool.and_eq_true,decide_eq_true_eq] at hv
    have hv2:=hv.2
    rw [okFrom_fuel s f (p+charAt s p) (by omega)] at hv2
    have hv3:okFrom s g (p+charAt s p)=true:=by rw [okFrom_fuel s g (p+charAt s p) (by omega)];exact hv2
    rw [hg]
    simp only [endsF,if_neg hp]
    rw [endsF_fuel s f (p+charAt s p) (by omega) hv.2,endsF_fuel s g (p+charAt s p) (by omega) hv3]
theorem endsF_step {s:ByteArray} {p:Nat} (hp:p<s.size) (hv:okFrom s (s.size-p) p=true) :
 charAt s p≠0∧okFrom s (s.size-(p+charAt s p)) (p+charAt s p)=true∧endsF s (s.size-p) p=(p,p+charAt s p)::endsF s (s.size-(p+charAt s p)) (p+charAt s p):=by
 have h0:charAt s p≠0:=fun h=>by rw [okFrom_bad s p hp h] at hv;cases hv
 have hv2:okFrom s (s.size-(p+charAt s p)) (p+charAt s p)=true:=by rw [← okFrom_step s p _ hp rfl h0];exact hv
 refine ⟨h0,hv2,?_⟩
 obtain ⟨g,hg⟩:∃ g,s.size-p=g+1:=⟨s.size-p-1,by omega⟩
 rw [hg]
 simp only [endsF,if_neg (show ¬ s.size≤p by omega)]
 rw [endsF_fuel s g (p+charAt s p) (by omega) (by rw [okFrom_fuel s g (p+charAt s p) (by omega)];exact hv2)]
def charsD (s:ByteArray):List ByteArray:=(endsF s s.size 0).map fun x=>s.extract x.1 x.2
end Go.Proofs.YtagkjofpncpcpaaGreatDoor
/- The model's decoder takes a valid character as long as it is. No program here. -/
namespace Go.Proofs.YtagkjofpncpcpaaGreatDoor
open Go.RowKit
theorem get_byte (s:ByteArray) (i:Nat) (h:i<s.size):((s.get! i).toNat:Int)=byteAt s i:=by
 rw [← byteAt_eq s i h]
 cases s with
 | mk d =>
   have h':i<d.size:=h
   show ((d[i]!).toNat:Int)=((d[i]).toNat:Int)
   rw [getElem!_pos d i h']
theorem char_inside {s:ByteArray} {p n:Nat} {least c0 c:Int} (h:charAt s p≠0) (hl:lead (byteAt s p)=(n,least,c0)) (hn:n≠0) (hs:p+n≤s.size) (hc:conts s p c0 (n-1)=some c) :
 least≤c∧c≤1114111∧¬ (55296≤c∧c<57344):=by
 have h1:=charAt_of hl hn hs hc
 by_cases ho:outside least c=true
 ·rw [if_pos ho] at h1;exact absurd h1 h
 ·refine ⟨?_,?_,?_⟩
  ·exact Int.not_lt.1 fun g=>ho (outside_yes (.inl g))
  ·exact Int.not_lt.1 fun g=>ho (outside_yes (.inr (.inl g)))
  ·exact fun g=>ho (outside_yes (.inr (.inr g)))
set_option maxHeartbeats 1600000 in
theorem charAt_decode {s:ByteArray} {p:Nat} (h:charAt s p≠0):(Utf8.decode s p).2=charAt s p:=by
 obtain ⟨e,hs,hb,hc⟩:=charAt_parts h
 have hB:=byteAt_range s p
 have hp:p<s.size:=by omega
 have G0:=get_byte s p hp
 rw [Lib.decode_at]
 have hcase:byteAt s p<128∨(194≤byteAt s p∧byteAt s p<224)∨(224≤byteAt s p∧byteAt s p<240)∨(240≤byteAt s p∧byteAt s p<245)∨245≤byteAt s p:=by omega
 rcases hcase with g | g | g | g | g
 ·have hl:=lead1 g
  rw [hl] at e
  rw [e]
  unfold Lib.decodeN
  rw [if_pos (by omega)]
 ·have hl:=lead2 g
  rw [hl] at e
  simp only at e
  have h1:=hc 1 (by omega) (by omega)
  have G1:=get_byte s (p+1) (by omega)
  rw [e]
  generalize (s.get! p).toNat=b0 at *
  generalize (s.get! (p+1)).toNat=b1 at *
  generalize (s.get! (p+2)).toNat=b2 at *
  generalize (s.get! (p+3)).toNat=b3 at *
  unfold Lib.decodeN
  rw [if_neg (by omega),if_pos (by omega),if_pos (by omega)]
 ·have hl:=lead3 g
  rw [hl] at e
  simp only at e
  have h1:=hc 1 (by omega) (by omega)
  have h2:=hc 2 (by omega) (by omega)
  have G1:=get_byte s (p+1) (by omega)
  have G2:=get_byte s (p+2) (by omega)
  have c1:=conts_yes (s:=s) (p:=p) (k:=0) (c:=byteAt s p-224) rfl h1.1 h1.2
  have c2:=conts_yes c1 h2.1 h2.2
  obtain ⟨o1,o2,o3⟩:=char_inside h hl (by decide) (by omega) c2
  simp only [Nat.zero_add] at o1 o2 o3
  rw [show p+(1+1)=p+2 from rfl] at o1 o2 o3
  rw [e]
  generalize (s.get! p).toNat=b0 at *
  generalize (s.get! (p+1)).toNat=b1 at *
  generalize (s.get! (p+2)).toNat=b2 at *
  generalize (s.get! (p+3)).toNat=b3 at *
  unfold Lib.decodeN
  rw [if_neg (by omega),if_neg (by omega),if_pos (by omega),if_pos (by omega)]
 ·have hl:=lead4 g
  rw [hl] at e
  simp only at e
  have h1:=hc 1 (by omega) (by omega)
  have h2:=hc 2 (by omega) (by omega)
  have h3:=hc 3 (by omega) (by omega)
  have G1:=get_byte s (p+1) (by omega)
  have G2:=get_byte s (p+2) (by omega)
  have G3:=get_byte s (p+3) (by omega)
  have c1:=conts_yes (s:=s) (p:=p) (k:=0) (c:=byteAt s p-240) rfl h1.1 h1.2
  have c2:=conts_yes c1 h2.1 h2.2
  have c3:=conts_yes c2 h3.1 h3.2
  obtain ⟨o1,o2,o3⟩:=char_inside h hl (by decide) (by omega) c3
  simp only [Nat.zero_add] at o1 o2 o3
  rw [show p+(1+1)=p+2 from rfl,show p+(1+1+1)=p+3 from rfl] at o1 o2 o3
  rw [e]
  generalize (s.get! p).toNat=b0 at *
  generalize (s.get! (p+1)).toNat=b1 at *
  generalize (s.get! (p+2)).toNat=b2 at *
  generalize (s.get! (p+3)).toNat=b3 at *
  unfold Lib.decodeN
  rw [if_neg (by omega),if_neg (by omega),if_neg (by omega),if_pos (by omega),if_pos (by omega)]
 ·exact absurd (charAt_0 (.inr g)) h
end Go.Proofs.YtagkjofpncpcpaaGreatDoor
/- Parts of a valid string between two of its characters are valid. No program here. -/
namespace Go.Proofs.YtagkjofpncpcpaaGreatDoor
open Go.RowKit
theorem byteAt_extract (s:ByteArray) (a b q:Nat) (hb:b≤s.size) (h:a+q<b):byteAt (s.extract a b) q=byteAt s (a+q):=by
 have h1:a+q<s.size:=by omega
 have h2:q<(s.extract a b).size:=by simp;omega
 rw [← byteAt_eq s _ h1,← byteAt_eq _ _ h2]
 rw [ByteArray.getElem_extract]
theorem conts_extract (s:ByteArray) (a b q:Nat) (c:Int) (hb:b≤s.size):∀ k,a+q+k<b→conts (s.extract a b) q c k=conts s (a+q) c k
 | 0,_=>rfl
 | k+1,h=>by
   simp only [conts]
   rw [conts_extract s a b q c hb k (by omega),byteAt_extract s a b _ hb (by omega),show a+(q+(k+1))=a+q+(k+1) by omega]
theorem charAt_extract {s:ByteArray} {a b q:Nat} (hb:b≤s.size) (h0:charAt s (a+q)≠0) (h:a+q+charAt s (a+q)≤b):charAt (s.extract a b) q=charAt s (a+q):=by
 obtain ⟨e,hs,_,_⟩:=charAt_parts h0
 have hq:a+q<b:=by omega
 have hbyte:=byteAt_extract s a b q hb hq
 have hsz:(s.extract a b).size=b-a:=by simp;omega
 have hn:(lead (byteAt s (a+q))).1≠0:=by rw [← e];exact h0
 rw [e] at h hs
 have hc:=conts_extract s a b q (lead (byteAt s (a+q))).2.2 hb ((lead (byteAt s (a+q))).1-1) (by omega)
 unfold charAt
 rw [hbyte,hsz,hc]
 rw [if_neg (show ¬ ((lead (byteAt s (a+q))).1=0∨b-a<q+(lead (byteAt s (a+q))).1) by omega),if_neg (show ¬ ((lead (byteAt s (a+q))).1=0∨s.size<a+q+(lead (byteAt s (a+q))).1) by omega)]
inductive Run (s:ByteArray):Nat→Nat→Prop
 | nil (a:Nat):Run s a a
 | cons {a b:Nat} (h:charAt s a≠0) (t:Run s (a+charAt s a) b):Run s a b
theorem Run.le {s:ByteArray} {a b:Nat} (h:Run s a b):a≤b:=by
 induction h with
 | nil=>omega
 | cons _ _ ih=>omega
theorem Run.valid {s:ByteArray} {a b q c:Nat} (hb:b≤s.size) (hc:a+q=c) (h:Run s c b) (hab:a≤b):okFrom (s.extract a b) ((s.extract a b).size-q) q=true:=by
 have hsz:(s.extract a b).size=b-a:=by simp;omega
 induction h generalizing q with
 | nil c=>exact okFrom_end _ _ (by omega)
 | @cons c b h0 t ih =>
   have hle:=t.le
   have e:=charAt_extract (s:=s) (a:=a) (b:=b) (q:=q) hb (by rw [hc];exact h0) (by rw [hc];exact hle)
   rw [hc] at e
   rw [okFrom_step _ q _ (by rw [hsz];omega) e h0]
   exact ih hb (by omega) hab hsz
theorem Run.validS {s:ByteArray} {a b:Nat} (hb:b≤s.size) (h:Run s a b):validS (s.extract a b)=true:=by
 have:=Run.valid (q:=0) hb (Nat.add_zero a) h h.le
 exact this
end Go.Proofs.YtagkjofpncpcpaaGreatDoor
/- The characters of a valid string,joined: the part from the first one to the last one. No program here. -/
namespace Go.Proofs.YtagkjofpncpcpaaGreatDoor
open Go.RowKit
def spansD (s:ByteArray):List (Nat×Nat):=endsF s s.size 0
def posD (s:ByteArray) (k:Nat):Nat:=match (spansD s)[k]? with
 | some x=>x.1
 | none=>s.size
inductive Spans (s:ByteArray):Nat→List (Nat×Nat)→Prop
 | nil:Spans s s.size []
 | cons {p:Nat} {l:List (Nat×Nat)} (h:charAt s p≠0) (t:Spans s (p+charAt s p) l):Spans s p ((p,p+charAt s p)::l)
theorem spans_of (s:ByteArray):∀ (f p:Nat),s.size-p≤f→p≤s.size→okFrom s (s.size-p) p=true→Spans s p (endsF s (s.size-p) p)
 | 0,p,h,hp,hv=>by
   obtain rfl:p=s.size:=by omega
   rw [Nat.sub_self]
   exact .nil
 | f+1,p,h,hp,hv=>by
   by_cases hs:p<s.size
   ·obtain ⟨h0,hv2,he⟩:=endsF_step hs hv
    obtain ⟨_,h1,_,_⟩:=charAt_parts h0
    rw [he]
    exact .cons h0 (spans_of s f _ (by omega) h1 hv2)
   ·obtain rfl:p=s.size:=by omega
    rw [Nat.sub_self]
    exact .nil
theorem Spans.le {s:ByteArray} {p:Nat} {l:List (Nat×Nat)} (h:Spans s p l):p≤s.size:=by
 induction h with
 | nil=>exact Nat.le_refl _
 | @cons p l h t ih=>omega
theorem Spans.first {s:ByteArray} {p:Nat} {l:List (Nat×Nat)} (h:Spans s p l):(match l[0]? with | some x=>x.1 | none=>s.size)=p:=by
 cases h with
 | nil=>rfl
 | cons=>rfl
theorem Spans.drop {s:ByteArray} {p:Nat} {l:List (Nat×Nat)} (h:Spans s p l):∀ k,k≤l.length→∃ q,Spans s q (l.drop k):=by
 induction h with
 | nil=>intro k hk;exact ⟨_,by rw [List.drop_nil];exact .nil⟩
 | @cons p l h t ih =>
   intro k hk
   cases k with
   | zero=>exact ⟨_,.cons h t⟩
   | succ k=>exact ih k (by simpa using hk)
theorem spans_all {s:ByteArray} (hv:validS s=true):Spans s 0 (spansD s):=spans_of s s.size 0 (by omega) (by omega) hv
theorem spans_drop {s:ByteArray} (hv:validS s=true) {k:Nat} (hk:k≤(spansD s).length):Spans s (posD s k) ((spansD s).drop k):=by
 obtain ⟨q,hq⟩:=(spans_all hv).drop k hk
 have:=hq.first
 rw [List.getElem?_drop,Nat.add_zero] at this
 have e:posD s k=q:=this
 rw [e];exact hq
theorem pos_end (s:ByteArray):posD s (spansD s).length=s.size:=by
 unfold posD
 rw [List.getElem?_eq_none (Nat.le_refl _)]
theorem pos_zero {s:ByteArray} (hv:validS s=true):posD s 0=0:=(spans_all hv).first
theorem pos_step {s:ByteArray} (hv:validS s=true) {k:Nat} (hk:k<(spansD s).length):charAt s (posD s k)≠0∧(spansD s)[k]=(posD s k,posD s (k+1))∧posD s (k+1)=posD s k+charAt s (posD s k)∧posD s (k+1)≤s.size:=by
 have h:=spans_drop hv (Nat.le_of_lt hk)
 rw [List.drop_eq_getElem_cons hk] at h
 generalize hx:(spansD s)[k]=x at h
 generalize hl:(spansD s).drop (k+1)=l at h
 generalize hp:posD s k=p at h ⊢
 cases h with
 | cons h0 t =>
   have h2:=spans_drop hv (k:=k+1) hk
   rw [hl] at h2
   have e1:=t.first
   have e2:=h2.first
   have e:posD s (k+1)=p+charAt s p:=e2.symm.trans e1
   have:=t.le
   exact ⟨h0,by rw [e],e,by omega⟩
theorem chars_len (s:ByteArray):(charsD s).length=(spansD s).length:=by simp [charsD,spansD]
theorem chars_get {s:ByteArray} (hv:validS s=true) {k:Nat} (hk:k<(charsD s).length):(charsD s)[k]=s.extract (posD s k) (posD s (k+1)):=by
 have hk':k<(spansD s).length:=by rw [← chars_len];exact hk
 obtain ⟨_,h,_⟩:=pos_step hv hk'
 have:(charsD s)[k]=s.extract (spansD s)[k].1 (spansD s)[k].2:=by simp [charsD,spansD]
 rw [this,h]
theorem extract_append (s:ByteArray) {a b c:Nat} (h1:a≤b) (h2:b≤c):s.extract a b++s.extract b c=s.extract a c:=by
 apply ByteArray.ext
 simp [ByteArray.data_extract,Nat.min_eq_left h1,Nat.max_eq_right h2]
theorem chars_count {s:ByteArray} (hv:validS s=true):(charsD s).length≤s.size:=by
 have:∀ {p:Nat} {l:List (Nat×Nat)},Spans s p l→l.length+p≤s.size:=by
  intro p l h
  induction h with
  | nil=>simp
  | @cons p l h t ih=>simp only [List.length_cons];omega
 have:=this (spans_all hv)
 rw [chars_len]
 omega
end Go.Proofs.YtagkjofpncpcpaaGreatDoor

/- builtin.characters: the characters of a valid string. -/
namespace Go.Proofs.YtagkjofpncpcpaaGreatDoor
open Go.RowKit
def StrsAt (w:World) (l:List ByteArray) (a:Option Addr):Prop:=l=[]∨∃ b,a=some ⟨b,0,none⟩∧b<w.heap.size∧∀ (j:Nat) x,l[j]?=some x→w.cell? ⟨b,j,none⟩=some (.string x)
theorem StrsAt.below {w w':World} {l:List ByteArray} {a:Option Addr} (h:StrsAt w l a) (hb:Below w.heap.size w w'):StrsAt w' l a:=by
 rcases h with h | ⟨b,h1,h2,h3⟩
 ·exact .inl h
 ·exact .inr ⟨b,h1,Nat.lt_of_lt_of_le h2 hb.size,fun j x hx=>by rw [hb.cell (p:=⟨b,j,none⟩) h2];exact h3 j x hx⟩
def StsR (l:List ByteArray) (w:World) (e:Ending) (w':World):Prop:=∃ (a:Option Addr) (c:Nat),e=.returned (.slice a l.length c)∧l.length≤c∧c≤maxLen∧StrsAt w' l a∧Below w.heap.size w w'
theorem sts_own {w w':World} {base:Nat} {v:Value} {l:List ByteArray} (h:w'.ownsRow base 9 1 v l.length (l.map .string)) (hb:Below w.heap.size w w'):StsR l w (.returned v) w':=by
 rcases h.2 with ⟨rfl,h0⟩ | ⟨g,cap,cur,rfl,hg,hh,hn,hm,hs,ht⟩
 ·obtain rfl:=List.length_eq_zero_iff.1 h0
  exact ⟨none,0,rfl,Nat.le_refl _,by unfold maxLen;omega,.inl rfl,hb⟩
 ·refine ⟨_,_,rfl,hn,hm,.inr ⟨g,rfl,(Array.getElem?_eq_some_iff.1 hh).1,fun j x hx=>?_⟩,hb⟩
  have:=h.cells (g:=g) rfl j (.string x) (by rw [List.getElem?_map,hx];rfl)
  rw [addr_add',Nat.zero_add] at this
  exact this
theorem tabs_below {w w':World} (h:Lib.Utf8Tabs 3 4 w) (hb:Below w.heap.size w w'):Lib.Utf8Tabs 3 4 w':=by
 refine ⟨fun c hc=>?_,fun i hi=>?_⟩
 ·have h1:=h.1 c hc
  rw [hb.cell (World.block_lt_of_cell? w _ h1)];exact h1
 ·have h1:=h.2 i hi
  exact ⟨by rw [hb.cell (World.block_lt_of_cell? w _ h1.1)];exact h1.1,by rw [hb.cell (World.block_lt_of_cell? w _ h1.2)];exact h1.2⟩
theorem decodeGo_len {s:ByteArray} {p:Nat} (hp:p<s.size) (h:charAt s p≠0):(Lib.decodeGo (s.extract p s.size)).2=charAt s p:=by
 have e:Lib.decodeGo (s.extract p s.size)=Utf8.decode s p:=by
  unfold Lib.decodeGo
  rw [if_neg (by rw [ByteArray.size_extract];omega),Lib.tail_decode]
  rfl
 rw [e]
 exact charAt_decode h
theorem infoS:(Tryz.prog.info? 9).map (fun i=>(i.zero,i.size,i.bytes))=some (some (.string ⟨#[]⟩),1,16):=by kernel_rfl
theorem take_map_snoc {l:List ByteArray} {k:Nat} (h:k<l.length):((l.take k).map Value.string)++[.string l[k]]=(l.take (k+1)).map .string:=by
 rw [List.take_succ_eq_append_getElem h,List.map_append]
 rfl
set_option maxRecDepth 100000 in
set_option maxHeartbeats 1600000 in
theorem chars_prog (s:ByteArray) (w:World) (hs:s.size≤1099511627776) (hT:Lib.Utf8Tabs 3 4 w) (hv:validS s=true) :
 Calls Tryz.prog 63 #[.string s] w (StsR (charsD s) w):=by
 obtain ⟨i0,hi,hz0,hz1,hz2⟩:=info_parts infoS
 have HT:=Hd hT
 have HV:=Hd hv
 have HLN:=Hd (chars_len s)
 have hcc:=chars_count hv
 obtain ⟨l,hl⟩:∃ l,charsD s=l:=⟨_,rfl⟩
 have HL:=Hd hl
 rw [hl] at hcc ⊢
 clear hT hl
 go_enter Tryz.func63,Tryz.ntmps63
 go_wp2_with fail
 go_simp
 go_loopw [3,4] (fun v i wr=>∃ (k p:Nat),k≤l.length∧Hid (posD s k=p)∧i=.int .i64 p∧wr.ownsRow w.heap.size 9 1 v k ((l.take k).map .string)∧Hid (Below w.heap.size w wr)) (fun _ i _=>s.size-(intOf i).toNat)
 case atStart=>exact ⟨0,0,by omega,Hd (pos_zero hv),rfl,World.ownsRow_nil _ _ _ _,Hd (Below.refl _ _)⟩
 case round =>
  obtain ⟨w1,rfl⟩:∃ w1,w1=wr:=⟨wr,rfl⟩
  obtain ⟨k,p,hk,HP,rfl,hown,HB⟩:=hrel
  have HO:=Hd hown
  clear hown
  by_cases hlt:p<s.size
  ·have hk2:k<(spansD s).length:=by
    rcases Nat.lt_or_ge k (spansD s).length with h | h
    ·exact h
    ·exfalso
     have h1:=HLN.out
     rw [HL.out] at h1
     have h2:=pos_end s
     rw [show (spansD s).length=k by omega,HP.out] at h2
     omega
   have hk3:k<l.length:=by
    have h1:=HLN.out
    rw [HL.out] at h1
    omega
   obtain ⟨g1,-,g3,g4⟩:=pos_step hv hk2
   have HX:=Hd (show l[k]=s.extract p (posD s (k+1)) by
    have h:=chars_get hv (k:=k) (by rw [HL.out];exact hk3)
    rw [HP.out] at h
    rw [← h]
    simp only [HL.out])
   rw [HP.out] at g1 g3
   have HW:=Hd (decodeGo_len hlt g1)
   obtain ⟨n,hn⟩:∃ n,charAt s p=n:=⟨_,rfl⟩
   rw [hn] at g1 g3 HW
   rw [g3] at HX g4
   have HG:=Hd g3
   clear g3 hn hk2
   go_wp2_with fail
   refine (Tryz.utf8_DecodeRuneInString _ w1 (tabs_below HT.out HB.out)).mono ?_
   rintro e w2 ⟨rfl,hb2⟩
   have HB2:=Hd (belowThen HB.out hb2)
   have HO2:=Hd (ownsRow_below HO.out hb2)
   clear hb2
   generalize hd1:(Lib.decodeGo (s.extract p s.size)).1=r at *
   generalize hd2:(Lib.decodeGo (s.extract p s.size)).2=m at *
   clear hd1 hd2
   obtain rfl:m=n:=HW.out
   go_wp2_with (at_builtin;refine wpList_append_own _ rfl _ _ 72 rfl w.heap.size 9 i0 (.string ⟨#[]⟩) 1 16 Tryz.underlying72 hi hz0 hz1 hz2 rfl (by decide) _ _ _ rfl (HO2.out.alloc _) ⟨w2.heap.size,0,none⟩ 1 1 [.string (s.extract p (p+m))] rfl rfl ?c1 ?c2 ?c3 ?c4 ?c5 ?_)
   case c1 =>
    intro j u hj
    match j,hj with
    | 0,hj=>simp at hj;subst hj;simp [Addr.add]
   case c2=>intro u hu;simp at hu;subst hu;rfl
   case c3=>unfold maxLen;omega
   case c4=>omega
   case c5=>have:=HB2.out.size;simp;omega
   intro v' w3 hown3 hgrow _
   have HB3:=Hd (show Below w.heap.size w w3 from (HB2.out.alloc HB2.out.size _).grown hgrow (by have:=HB2.out.size;simp;omega) (fun k hk=>(HO2.out.lt k hk).1))
   have HO3:=Hd hown3
   clear hown3 hgrow
   go_wp2
   go_roundw
   case rel=>exact ⟨k+1,p+m,by omega,HG,by go_num,by rw [← take_map_snoc hk3,HX.out,List.map_take];exact HO3.out,HB3⟩
   case measure=>simp [intOf];omega
  ·have hkl:k=l.length:=by
    have h1:=HLN.out
    rw [HL.out] at h1
    rcases Nat.lt_or_ge k (spansD s).length with h | h
    ·exfalso
     obtain ⟨g1,_,g3,g4⟩:=pos_step hv h
     rw [HP.out] at g1 g3
     omega
    ·omega
   subst hkl
   go_wp2_with fail
   go_ret
   exact sts_own (by simpa using HO.out) HB.out
end Go.Proofs.YtagkjofpncpcpaaGreatDoor
/- datakitref37.Chars: the characters of a valid string. -/
namespace Go.Proofs.YtagkjofpncpcpaaGreatDoor
open Go.RowKit
end Go.Proofs.YtagkjofpncpcpaaGreatDoor

/- What Slice gives. No program here. -/
namespace Go.Proofs.YtagkjofpncpcpaaGreatDoor
open Go.RowKit
theorem chkD_zero {v:ValD} (h:chkD v=0):oneE v=0:=by
 unfold chkD at h
 rw [show lookD 48 v 0=if (65536:Int)≤0 then (0,10) else if oneE v=0 then kidsL (lookD 47) (kidsD v) (0+1) else (0,oneE v) from rfl,if_neg (by omega)] at h
 by_cases h1:oneE v=0
 ·exact h1
 ·rw [if_neg h1] at h
  exact absurd h h1
theorem chkD_own {v:ValD} (h:chkD v=0):VDec v.num∧validS v.text=true∧v.text.size≤65536∧(v.kind≠6→v.list=[])∧(v.kind≠4→v.text.size=0):=by
 have h1:=chkD_zero h
 unfold oneE at h1
 by_cases h2:ownB v=false
 ·rw [if_pos h2] at h1;exact absurd h1 (by decide)
 rw [if_neg h2] at h1
 by_cases h3:vdecB v.num=false∨(v.kind=3∧vtimeB v.time=false)
 ·rw [if_pos h3] at h1;exact absurd h1 (by decide)
 rw [if_neg h3] at h1
 by_cases h4:validS v.text=false
 ·rw [if_pos h4] at h1;exact absurd h1 (by decide)
 rw [if_neg h4] at h1
 by_cases h5:65536<v.text.size∨65536<v.bytes.length
 ·rw [if_pos h5] at h1;exact absurd h1 (by decide)
 have ho:=(ownB_iff v).1 (by simpa using h2)
 obtain ⟨_,_,_,_,_,g4,_,g6,_⟩:=ho
 refine ⟨(vdecB_iff _).1 ?_,by simpa using h4,by omega,fun hk=>List.length_eq_zero_iff.1 (by have:=g6 hk;omega),fun hk=>by
  rcases Nat.eq_zero_or_pos v.text.size with h9 | h9
  ·exact h9
  ·exact absurd (g4 hk) (ne_toList h9)⟩
 cases hb:vdecB v.num
 ·exact absurd (Or.inl hb) h3
 ·rfl
end Go.Proofs.YtagkjofpncpcpaaGreatDoor
/- The bounds of a slice: builtin.bound,datakitref37.bound. -/
namespace Go.Proofs.YtagkjofpncpcpaaGreatDoor
open Go.RowKit
end Go.Proofs.YtagkjofpncpcpaaGreatDoor

/- datakitref37.texts: strings as values. -/
namespace Go.Proofs.YtagkjofpncpcpaaGreatDoor
open Go.RowKit
end Go.Proofs.YtagkjofpncpcpaaGreatDoor
/- Parts of rows,joined strings. -/
namespace Go.Proofs.YtagkjofpncpcpaaGreatDoor
open Go.RowKit
end Go.Proofs.YtagkjofpncpcpaaGreatDoor

/- The parts of a text between the occurrences of another: datakitref37.Find, datakitref37.Parts. -/
namespace Go.Proofs.YtagkjofpncpcpaaGreatDoor
open Go.RowKit
def splitA (t s:ByteArray):List ByteArray:=Lib.splitB t 0 (Lib.countB s t) s
theorem splitA_miss {t s:ByteArray} (h:Lib.indexB s t=-1):splitA t s=[s]:=by unfold splitA;exact Lib.splitB_miss _ _ _ _ h
theorem splitA_hit {t s:ByteArray} {i:Nat} (h1:1≤t.size) (h:Lib.indexB s t=i):splitA t s=s.extract 0 i::splitA t (s.extract (i+t.size) s.size):=by
 unfold splitA
 rw [Lib.countB_hit s t i h1 h,Nat.add_comm,Lib.splitB_hit _ _ _ _ i h]
 rfl
theorem occ_eq {s t:ByteArray} {k:Nat}:Lib.occAt s.data.toList t.data.toList k=((s.extract k (k+t.size)).toList==t.toList):=by
 unfold Lib.occAt
 have e:(s.extract k (k+t.size)).toList=(s.data.toList.drop k).take t.data.toList.length:=by
  rw [ByteArray.toList_eq,ByteArray.data_extract,Array.toList_extract,List.extract_eq_take_drop]
  congr 1
  rw [Array.length_toList]
  show k+t.size-k=t.size
  omega
 rw [e,ByteArray.toList_eq]
 apply Bool.eq_iff_iff.2
 rw [List.isPrefixOf_iff_prefix,List.prefix_iff_eq_take,beq_iff_eq]
 exact ⟨fun h=>h.symm,fun h=>h.symm⟩
end Go.Proofs.YtagkjofpncpcpaaGreatDoor

/- A text split: builtin.texts, builtin.split; both sides' results. -/
namespace Go.Proofs.YtagkjofpncpcpaaGreatDoor
open Go.RowKit
theorem texts_fits (l:List ByteArray):∀ x∈l.map textD,fitsV 1 x:=fun x hx=>by
 obtain ⟨s,_,rfl⟩:=List.mem_map.1 hx
 exact ⟨fun y h=>(by cases h),fun f h=>(by cases h)⟩
set_option maxRecDepth 100000 in
set_option maxHeartbeats 3200000 in
theorem texts_p (l:List ByteArray) (a:Option Addr) (c:Nat) (w:World) (Bo N:Nat) (hN:N≤4294967296) (hll:l.length≤N) (hls:∀ s∈l,s.size≤N) (hBo:Bo≤w.heap.size) (h:StrsAt w l a) :
 Calls Tryz.prog 99 #[.slice a l.length c] w (ResR Bo N (resD (lisD (l.map textD))) w):=by
 obtain ⟨z0,hz0s,hinfo⟩:=infoV
 obtain ⟨i0,hi,hz0,hz1,hz2⟩:=info_parts hinfo
 have HI:=Hd hi
 have HZ0:=Hd hz0
 have HZ1:=Hd hz1
 have HZ2:=Hd hz2
 have HZS:=Hd hz0s
 have HLS:=Hd hls
 have HA:=Hd h
 have H0:=Hd (belowBox w (.cells zeroV 30))
 have Z0:=Hd (show RowAt (w.alloc (.cells zeroV 30)) w.heap.size zeroV.toList from heap_alloc_new w (.cells zeroV 30))
 clear hi hz0 hz1 hz2 hz0s hinfo hls h
 go_enter Tryz.func99,Tryz.ntmps99
 go_wp2_with fail
 go_simp
 go_loopw [4,9] (fun s i wr=>∃ (k:Nat) (xs:List Value),k≤l.length∧i=.int .i64 k∧wr.ownsRow (w.heap.size+1) 30 13 s k xs∧Hid (PartsAt w w.heap.size N (l.map textD) k xs)∧Hid (Below w.heap.size w wr)∧Hid (RowAt wr w.heap.size zeroV.toList)∧Hid (w.heap.size+1≤wr.heap.size)) (fun _ i _=>l.length-(intOf i).toNat)
 case atStart=>exact ⟨0,[],by omega,rfl,World.ownsRow_nil _ _ _ _,Hd (fun j _ hj=>absurd hj (by omega)),H0,Z0,Hd (by rw [World.size_alloc];omega)⟩
 case round =>
  obtain ⟨w2,rfl⟩:∃ w2,w2=wr:=⟨wr,rfl⟩
  obtain ⟨k,xs,hk,rfl,hown,HP,HB,HZ,HSZ⟩:=hrel
  have HO:=Hd hown
  clear hown H0 Z0
  by_cases hlt:k<l.length
  ·obtain ⟨b,rfl,hb,hget⟩:∃ b,a=some ⟨b,0,none⟩∧b<w.heap.size∧∀ (j:Nat) x,l[j]?=some x→w.cell? ⟨b,j,none⟩=some (.string x):=by
    rcases HA.out with h | h
    ·rw [h] at hlt;simp at hlt
    ·exact h
   have hlk:l[k]?=some l[k]:=List.getElem?_eq_getElem hlt
   obtain ⟨x,hx⟩:∃ x,l[k]=x:=⟨_,rfl⟩
   have c1:w2.cell? ⟨b,k,none⟩=some (.string x):=by
    rw [HB.out.cell (p:=⟨b,k,none⟩) hb,← hx]
    exact hget k _ hlk
   have hsz:x.size≤N:=by rw [← hx];exact HLS.out _ (List.getElem_mem hlt)
   have HT:=Hd (show ∀ h:k<(l.map textD).length,ValD.At w w.heap.size N (l.map textD)[k] (textR x) from fun h=>by
    rw [List.getElem_map,hx]
    exact textD_at hsz)
   clear hx hget hlk hsz
   go_wp2_with fail
   refine (text_prog x w2).mono ?_
   rintro e w3 ⟨rfl,hb3⟩
   rw [show (textR x).toArray=#[.int .i64 4,.bool false,.bool false,.string ⟨#[]⟩,.int .i64 0,.int .i64 0,.int .i64 0,.int .i64 0,.int .i64 0,.string x,.slice none 0 0,.slice none 0 0,.slice none 0 0] from rfl]
   have HBT:=Hd hb3
   clear hb3 c1
   have hs3:=HBT.out.size
   have HO3:=Hd (own_same HO.out (fun q _ hq=>HBT.out.block q hq))
   go_wp2_with ((with_reducible show wpList _ _ _ (⟨some 17,_,_,_,_,_⟩::_) _ _);refine wpList_append_own _ rfl _ _ 22 rfl (w.heap.size+1) 30 i0 (.agg z0) 13 168 Tryz.underlying22 HI.out HZ0.out HZ1.out HZ2.out HZS.out (by decide) _ _ _ rfl (HO3.out.alloc _) ⟨w3.heap.size,0,none⟩ 1 1 (textR x) rfl rfl ?c1 ?c2 ?c3 ?c4 ?c5 ?_)
   case c1 =>
    intro j u hj
    rw [addr_add',World.cell?_alloc_new]
    simpa [textR] using hj
   case c2=>intro u hu;simp [textR] at hu;rcases hu with rfl | rfl | rfl | rfl | rfl | rfl<;>rfl
   case c3=>unfold maxLen;omega
   case c4=>omega
   case c5=>have:=HSZ.out;rw [World.size_alloc];omega
   intro v2 w4 hown4 hgrow _
   have HO4:=Hd hown4
   have HBL:=Hd (show Below (w.heap.size+1) w2 w4 from (HBT.out.mono HSZ.out).trans ((belowBox' w3 _ (Nat.le_trans HSZ.out hs3)).grown hgrow (by have:=HSZ.out;rw [World.size_alloc];omega) (fun q hq=>(HO3.out.lt q hq).1)))
   have HB4:=Hd (HB.out.trans (HBL.out.mono (by omega)))
   have HZ4:=Hd (HZ.out.below HBL.out (by omega))
   have HS4:=Hd (Nat.le_trans HSZ.out HBL.out.size)
   clear hgrow hown4
   go_wp2_with fail
   go_roundw
   case rel=>exact ⟨k+1,xs++textR x,by omega,by go_num,HO4.out,Hd (HP.out.snoc HO.out.1 (by simpa using hlt) (HT.out (by simpa using hlt))),HB4,HZ4,HS4⟩
   case measure=>simp [intOf];omega
  ·obtain rfl:k=l.length:=by omega
   obtain ⟨a2,c2,rfl,hv⟩:=valsAt_own HO.out (l:=l.map textD) (by simp) (Nat.le_refl _) (fun i hi=>((HP.out i hi (by simpa using hi)).below HB.out).mono HB.out.size)
   have HV:=Hd hv
   rw [show (l.map textD).length=l.length by simp] at HO ⊢
   clear hv
   go_wp2_with fail
   refine (list_prog_bn 1 (by omega) (l.map textD) l.length (by simp) (texts_fits l) a2 c2 w2 w2.heap.size Bo N hN hll (Nat.le_refl _) (Nat.le_trans hBo HB.out.size) HV.out).mono ?_
   rintro e wE ⟨cs,rfl,hsol,hb⟩
   obtain ⟨r,hr⟩:∃ r,r=resD (lisD (l.map textD)):=⟨_,rfl⟩
   rw [← hr] at hsol ⊢
   have HQ2:=Hd hr
   have hlen:=hsol.here.len
   have AT:=Hd hsol.here
   have S1:=Hd hsol
   have HBE:=Hd (HB.out.trans (hb.mono HB.out.size))
   have ZE:=Hd (HZ.out.below hb (by have:=HSZ.out;omega))
   clear hsol hb hr
   obtain ⟨rv,rk⟩:=r
   go_wp2_with ((with_reducible show wpList _ _ _ (⟨none,.store 30 (.tmp 2) _,_,_,_,_⟩::_) _ _);refine wpList_store_row rfl 30 _ _ rfl w.heap.size cs.toArray rfl rfl 30 zeroV ZE.out (row_size hlen) (row_zero hlen) (row_ones AT.out) ?_)
   refine bodyPost_ret (results_cell_row2 rfl _ _ w.heap.size 30 _ (0,0) _ rfl (setRow_heap _ _ _ _ _ _ ZE.out) Tryz.underlying30 rfl (row_size hlen)) rfl ?_
   rw [← HQ2.out]
   refine ⟨cs,rfl,fun d hd=>S1.out d ?_,below_setRow HBE.out (Nat.le_refl _) _⟩
   exact (Apart.of_setRow0 cs.toArray hBo (by have:=HSZ.out;omega)).after hd (by have:=HSZ.out;omega)
end Go.Proofs.YtagkjofpncpcpaaGreatDoor
