/- Valid UTF-8, as a function of the bytes: no program here. -/
import Derived.Test.YtagkjofpncpcpaaGreatDoorProg
import Derived.Below
namespace Go.Proofs.YtagkjofpncpcpaaGreatDoor
open Go.RowKit
def byteAt (s:ByteArray) (i:Nat):Int:=((s.data.toList[i]?).getD 0).toNat
theorem byteAt_eq (s:ByteArray) (i:Nat) (h:i<s.size):(s[i].toNat:Int)=byteAt s i:=by
 have h':i<s.data.toList.length:=by simpa using h
 unfold byteAt
 rw [List.getElem?_eq_getElem h']
 rfl
theorem byteAt_range (s:ByteArray) (i:Nat):0≤byteAt s i∧byteAt s i≤255:=by
 unfold byteAt
 have:=((s.data.toList[i]?).getD 0).toNat_lt
 omega
def lead (a:Int):Nat×Int×Int:=if a<128 then (1,0,a) else if 194≤a∧a<224 then (2,128,a-192) else if 224≤a∧a<240 then (3,2048,a-224) else if 240≤a∧a<245 then (4,65536,a-240) else (0,0,0)
def conts (s:ByteArray) (p:Nat) (c:Int):Nat→Option Int
 | 0=>some c
 | k+1=>match conts s p c k with
   | none=>none
   | some d=>if 128≤byteAt s (p+(k+1))∧byteAt s (p+(k+1))<192 then some (64 * d+byteAt s (p+(k+1))-128) else none
def outside (least c:Int):Bool:=decide (c<least) || decide (1114111<c) || (decide (55296≤c)&&decide (c<57344))
def charAt (s:ByteArray) (p:Nat):Nat :=
 if (lead (byteAt s p)).1=0∨s.size<p+(lead (byteAt s p)).1 then 0 else
 match conts s p (lead (byteAt s p)).2.2 ((lead (byteAt s p)).1-1) with
 | none=>0
 | some c=>if outside (lead (byteAt s p)).2.1 c=true then 0 else (lead (byteAt s p)).1
def okFrom (s:ByteArray):Nat→Nat→Bool
 | 0,_=>true
 | f+1,p=>if s.size≤p then true else decide (charAt s p≠0)&&okFrom s f (p+charAt s p)
def validS (s:ByteArray):Bool:=okFrom s s.size 0
theorem okFrom_fuel (s:ByteArray):∀ (f p:Nat),s.size-p≤f→okFrom s f p=okFrom s (s.size-p) p
 | 0,p,h=>by rw [show s.size-p=0 by omega]
 | f+1,p,h=>by
   by_cases hp:s.size≤p
   ·rw [show s.size-p=0 by omega]
    simp [okFrom,hp]
   ·obtain ⟨g,hg⟩:∃ g,s.size-p=g+1:=⟨s.size-p-1,by omega⟩
    rw [hg]
    simp only [okFrom,if_neg hp]
    by_cases hc:charAt s p=0
    ·simp [hc]
    ·rw [okFrom_fuel s f (p+charAt s p) (by omega),okFrom_fuel s g (p+charAt s p) (by omega)]
theorem okFrom_step (s:ByteArray) (p n:Nat) (hp:p<s.size) (hn:charAt s p=n) (h0:n≠0):okFrom s (s.size-p) p=okFrom s (s.size-(p+n)) (p+n):=by
 obtain ⟨g,hg⟩:∃ g,s.size-p=g+1:=⟨s.size-p-1,by omega⟩
 rw [hg]
 simp only [okFrom,if_neg (show ¬ s.size≤p by omega)]
 rw [hn,okFrom_fuel s g (p+n) (by omega)]
 simp [h0]
theorem okFrom_bad (s:ByteArray) (p:Nat) (hp:p<s.size) (hn:charAt s p=0):okFrom s (s.size-p) p=false:=by
 obtain ⟨g,hg⟩:∃ g,s.size-p=g+1:=⟨s.size-p-1,by omega⟩
 rw [hg]
 simp [okFrom,hn,show ¬ s.size≤p by omega]
theorem okFrom_end (s:ByteArray) (p:Nat) (hp:s.size≤p):okFrom s (s.size-p) p=true:=by
 rw [show s.size-p=0 by omega];rfl
theorem conts_none {s:ByteArray} {p:Nat} {c:Int}:∀ {k m:Nat},k≤m→conts s p c k=none→conts s p c m=none
 | k,0,h,hn=>by rw [show k=0 by omega] at hn;exact hn
 | k,m+1,h,hn=>by
   by_cases e:k=m+1
   ·rw [← e];exact hn
   ·simp only [conts]
    rw [conts_none (show k≤m by omega) hn]
theorem conts_yes {s:ByteArray} {p k:Nat} {c d:Int} (h:conts s p c k=some d) (h1:128≤byteAt s (p+(k+1))) (h2:byteAt s (p+(k+1))<192):conts s p c (k+1)=some (64 * d+byteAt s (p+(k+1))-128):=by
 simp only [conts]
 rw [h]
 simp only
 rw [if_pos ⟨h1,h2⟩]
theorem conts_no {s:ByteArray} {p k:Nat} {c d:Int} (h:conts s p c k=some d) (h1:byteAt s (p+(k+1))<128∨192≤byteAt s (p+(k+1))):conts s p c (k+1)=none:=by
 simp only [conts]
 rw [h]
 simp only
 rw [if_neg (by omega)]
theorem outside_no {least c:Int} (h1:¬ c<least) (h2:¬ 1114111<c) (h3:¬ (55296≤c∧c<57344)):outside least c=false:=by
 simp [outside,h1,h2]
 omega
theorem outside_yes {least c:Int} (h:c<least∨1114111<c∨(55296≤c∧c<57344)):outside least c=true:=by
 simp [outside]
 omega
theorem lead1 {a:Int} (h:a<128):lead a=(1,0,a):=by unfold lead;rw [if_pos h]
theorem lead2 {a:Int} (h:194≤a∧a<224):lead a=(2,128,a-192):=by unfold lead;rw [if_neg (by omega),if_pos h]
theorem lead3 {a:Int} (h:224≤a∧a<240):lead a=(3,2048,a-224):=by unfold lead;rw [if_neg (by omega),if_neg (by omega),if_pos h]
theorem lead4 {a:Int} (h:240≤a∧a<245):lead a=(4,65536,a-240):=by unfold lead;rw [if_neg (by omega),if_neg (by omega),if_neg (by omega),if_pos h]
theorem lead0 {a:Int} (h:(128≤a∧a<194)∨245≤a):lead a=(0,0,0):=by unfold lead;rw [if_neg (by omega),if_neg (by omega),if_neg (by omega),if_neg (by omega)]
theorem charAt_0 {s:ByteArray} {p:Nat} (h:(128≤byteAt s p∧byteAt s p<194)∨245≤byteAt s p):charAt s p=0:=by
 unfold charAt
 rw [lead0 h]
 simp
def leadW (a:Int):Nat×Int×Int:=if a<128 then (1,0,a) else if 192≤a∧a<224 then (2,128,a-192) else if 224≤a∧a<240 then (3,2048,a-224) else if 240≤a∧a<248 then (4,65536,a-240) else (0,0,0)
theorem leadW1 {a:Int} (h:a<128):leadW a=(1,0,a):=by unfold leadW;rw [if_pos h]
theorem leadW2 {a:Int} (h:192≤a∧a<224):leadW a=(2,128,a-192):=by unfold leadW;rw [if_neg (by omega),if_pos h]
theorem leadW3 {a:Int} (h:224≤a∧a<240):leadW a=(3,2048,a-224):=by unfold leadW;rw [if_neg (by omega),if_neg (by omega),if_pos h]
theorem leadW4 {a:Int} (h:240≤a∧a<248):leadW a=(4,65536,a-240):=by unfold leadW;rw [if_neg (by omega),if_neg (by omega),if_neg (by omega),if_pos h]
theorem leadW0 {a:Int} (h:(128≤a∧a<192)∨248≤a):leadW a=(0,0,0):=by unfold leadW;rw [if_neg (by omega),if_neg (by omega),if_neg (by omega),if_neg (by omega)]
theorem conts_range {s:ByteArray} {p:Nat} {c:Int}:∀ {k:Nat} {d:Int},conts s p c k=some d→c * 64 ^ k≤d∧d<(c+1) * 64 ^ k
 | 0,d,h=>by
   simp only [conts,Option.some.injEq] at h
   subst h
   simp
   omega
 | k+1,d,h=>by
   simp only [conts] at h
   cases hc:conts s p c k with
   | none=>rw [hc] at h;cases h
   | some x =>
     rw [hc] at h
     simp only at h
     obtain ⟨h1,h2⟩:=conts_range hc
     split at h
     ·rename_i hb
      simp only [Option.some.injEq] at h
      rw [Int.pow_succ,← Int.mul_assoc,← Int.mul_assoc]
      generalize (c * 64 ^ k:Int)=A at *
      generalize ((c+1) * 64 ^ k:Int)=C at *
      omega
     ·cases h
theorem charAt_W {s:ByteArray} {p n:Nat} {least c0:Int} (hl:leadW (byteAt s p)=(n,least,c0)) (hn:n≠0):charAt s p=if s.size<p+n then 0 else match conts s p c0 (n-1) with
 | none=>0
 | some c=>if outside least c=true then 0 else n:=by
 obtain ⟨h0,h9⟩:=byteAt_range s p
 have hcls:byteAt s p<128∨(192≤byteAt s p∧byteAt s p<194)∨(194≤byteAt s p∧byteAt s p<224)∨(224≤byteAt s p∧byteAt s p<240)∨(240≤byteAt s p∧byteAt s p<245)∨(245≤byteAt s p∧byteAt s p<248)∨((128≤byteAt s p∧byteAt s p<192)∨248≤byteAt s p):=by omega
 have same:lead (byteAt s p)=(n,least,c0)→charAt s p=if s.size<p+n then 0 else match conts s p c0 (n-1) with
  | none=>0
  | some c=>if outside least c=true then 0 else n:=fun hl=>by
  unfold charAt
  rw [hl]
  simp only
  by_cases hs:s.size<p+n
  ·rw [if_pos (.inr hs),if_pos hs]
  ·rw [if_neg (by omega),if_neg hs]
 have none0:(∀ c,conts s p c0 (n-1)=some c→outside least c=true)→charAt s p=0→charAt s p=if s.size<p+n then 0 else match conts s p c0 (n-1) with
  | none=>0
  | some c=>if outside least c=true then 0 else n:=fun ho hz=>by
  rw [hz]
  split
  ·rfl
  ·split
   ·rfl
   ·rename_i c hc
    rw [if_pos (ho c hc)]
 rcases hcls with h | h | h | h | h | h | h
 ·exact same (by rw [lead1 h,← hl,leadW1 h])
 ·rw [leadW2 (by omega)] at hl
  simp only [Prod.mk.injEq] at hl
  obtain ⟨rfl,rfl,rfl⟩:=hl
  refine none0 (fun c hc=>outside_yes (.inl ?_)) (charAt_0 (.inl (by omega)))
  have:=(conts_range hc).2
  simp at this
  omega
 ·exact same (by rw [lead2 h,← hl,leadW2 (by omega)])
 ·exact same (by rw [lead3 h,← hl,leadW3 h])
 ·exact same (by rw [lead4 h,← hl,leadW4 (by omega)])
 ·rw [leadW4 (by omega)] at hl
  simp only [Prod.mk.injEq] at hl
  obtain ⟨rfl,rfl,rfl⟩:=hl
  refine none0 (fun c hc=>outside_yes (.inr (.inl ?_))) (charAt_0 (.inr (by omega)))
  have:=(conts_range hc).1
  simp at this
  omega
 ·rw [leadW0 h] at hl
  simp only [Prod.mk.injEq] at hl
  exact absurd hl.1.symm hn
theorem charAt_W0 {s:ByteArray} {p:Nat} (h:(128≤byteAt s p∧byteAt s p<192)∨248≤byteAt s p):charAt s p=0:=charAt_0 (by omega)
theorem charAt_Wshort {s:ByteArray} {p n:Nat} {least c0:Int} (hl:leadW (byteAt s p)=(n,least,c0)) (hn:n≠0) (hs:s.size<p+n):charAt s p=0:=by rw [charAt_W hl hn,if_pos hs]
theorem charAt_Wcont {s:ByteArray} {p n k:Nat} {least c0:Int} (hl:leadW (byteAt s p)=(n,least,c0)) (hn:n≠0) (hk:k≤n-1) (hc:conts s p c0 k=none):charAt s p=0:=by
 rw [charAt_W hl hn,conts_none hk hc]
 split<;>rfl
theorem charAt_Wof {s:ByteArray} {p n:Nat} {least c0 c:Int} (hl:leadW (byteAt s p)=(n,least,c0)) (hn:n≠0) (hs:p+n≤s.size) (hc:conts s p c0 (n-1)=some c):charAt s p=if outside least c=true then 0 else n:=by
 rw [charAt_W hl hn,if_neg (by omega),hc]
end Go.Proofs.YtagkjofpncpcpaaGreatDoor
