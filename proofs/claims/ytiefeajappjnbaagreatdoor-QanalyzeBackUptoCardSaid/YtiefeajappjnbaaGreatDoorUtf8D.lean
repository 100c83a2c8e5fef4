/- Valid UTF-8, as a function of the bytes: no program here. -/
import Derived.Test.YtiefeajappjnbaaGreatDoorProg
import Derived.Below
namespace Go.Proofs.YtiefeajappjnbaaGreatDoor
open Go.RowKit
def ah (s:ByteArray) (i:Nat):Int:=((s.data.toList[i]?).getD 0).toNat
theorem bI (s:ByteArray) (i:Nat) (h:i<s.size):(s[i].toNat:Int)=ah s i:=by
 have h':i<s.data.toList.length:=by simpa using h
 unfold ah
 rw [List.getElem?_eq_getElem h']
 rfl
theorem az (s:ByteArray) (i:Nat):0≤ah s i∧ah s i≤255:=by
 unfold ah
 have:=((s.data.toList[i]?).getD 0).toNat_lt
 omega
def cv (a:Int):Nat×Int×Int:=if a<128 then (1,0,a) else if 194≤a∧a<224 then (2,128,a-192) else if 224≤a∧a<240 then (3,2048,a-224) else if 240≤a∧a<245 then (4,65536,a-240) else (0,0,0)
def aR (s:ByteArray) (p:Nat) (c:Int):Nat→Option Int
 | 0=>some c
 | k+1=>match aR s p c k with
   | none=>none
   | some d=>if 128≤ah s (p+(k+1))∧ah s (p+(k+1))<192 then some (64 * d+ah s (p+(k+1))-128) else none
def bi (least c:Int):Bool:=decide (c<least) || decide (1114111<c) || (decide (55296≤c)&&decide (c<57344))
def au (s:ByteArray) (p:Nat):Nat :=
 if (cv (ah s p)).1=0∨s.size<p+(cv (ah s p)).1 then 0 else
 match aR s p (cv (ah s p)).2.2 ((cv (ah s p)).1-1) with
 | none=>0
 | some c=>if bi (cv (ah s p)).2.1 c=true then 0 else (cv (ah s p)).1
def ct (s:ByteArray):Nat→Nat→Bool
 | 0,_=>true
 | f+1,p=>if s.size≤p then true else decide (au s p≠0)&&ct s f (p+au s p)
def validS (s:ByteArray):Bool:=ct s s.size 0
theorem hP (s:ByteArray):∀ (f p:Nat),s.size-p≤f→ct s f p=ct s (s.size-p) p
 | 0,p,h=>by rw [show s.size-p=0 by omega]
 | f+1,p,h=>by
   by_cases hp:s.size≤p
   ·rw [show s.size-p=0 by omega]
    simp [ct,hp]
   ·obtain ⟨g,hg⟩:∃ g,s.size-p=g+1:=⟨s.size-p-1,by omega⟩
    rw [hg]
    simp only [ct,if_neg hp]
    by_cases hc:au s p=0
    ·simp [hc]
    ·rw [hP s f (p+au s p) (by omega),hP s g (p+au s p) (by omega)]
theorem cz (s:ByteArray) (p n:Nat) (hp:p<s.size) (hn:au s p=n) (h0:n≠0):ct s (s.size-p) p=ct s (s.size-(p+n)) (p+n):=by
 obtain ⟨g,hg⟩:∃ g,s.size-p=g+1:=⟨s.size-p-1,by omega⟩
 rw [hg]
 simp only [ct,if_neg (show ¬ s.size≤p by omega)]
 rw [hn,hP s g (p+n) (by omega)]
 simp [h0]
theorem gu (s:ByteArray) (p:Nat) (hp:p<s.size) (hn:au s p=0):ct s (s.size-p) p=false:=by
 obtain ⟨g,hg⟩:∃ g,s.size-p=g+1:=⟨s.size-p-1,by omega⟩
 rw [hg]
 simp [ct,hn,show ¬ s.size≤p by omega]
theorem gt (s:ByteArray) (p:Nat) (hp:s.size≤p):ct s (s.size-p) p=true:=by
 rw [show s.size-p=0 by omega];rfl
theorem cL {s:ByteArray} {p n:Nat} {least c0 c:Int} (hl:cv (ah s p)=(n,least,c0)) (hn:n≠0) (hs:p+n≤s.size) (hc:aR s p c0 (n-1)=some c):au s p=if bi least c=true then 0 else n:=by
 unfold au
 rw [hl]
 simp only
 rw [if_neg (by omega),hc]
theorem gG {s:ByteArray} {p n:Nat} {least c0:Int} (hl:cv (ah s p)=(n,least,c0)) (hs:s.size<p+n):au s p=0:=by
 unfold au
 rw [hl]
 simp only
 rw [if_pos (by omega)]
theorem jy {s:ByteArray} {p:Nat} {c:Int}:∀ {k m:Nat},k≤m→aR s p c k=none→aR s p c m=none
 | k,0,h,hn=>by rw [show k=0 by omega] at hn;exact hn
 | k,m+1,h,hn=>by
   by_cases e:k=m+1
   ·rw [← e];exact hn
   ·simp only [aR]
    rw [jy (show k≤m by omega) hn]
theorem dH {s:ByteArray} {p n k:Nat} {least c0:Int} (hl:cv (ah s p)=(n,least,c0)) (hk:k≤n-1) (hc:aR s p c0 k=none):au s p=0:=by
 unfold au
 rw [hl]
 simp only
 rw [jy hk hc]
 split<;>rfl
theorem aK {s:ByteArray} {p k:Nat} {c d:Int} (h:aR s p c k=some d) (h1:128≤ah s (p+(k+1))) (h2:ah s (p+(k+1))<192):aR s p c (k+1)=some (64 * d+ah s (p+(k+1))-128):=by
 simp only [aR]
 rw [h]
 simp only
 rw [if_pos ⟨h1,h2⟩]
theorem b8 {s:ByteArray} {p k:Nat} {c d:Int} (h:aR s p c k=some d) (h1:ah s (p+(k+1))<128∨192≤ah s (p+(k+1))):aR s p c (k+1)=none:=by
 simp only [aR]
 rw [h]
 simp only
 rw [if_neg (by omega)]
theorem cC {least c:Int} (h1:¬ c<least) (h2:¬ 1114111<c) (h3:¬ (55296≤c∧c<57344)):bi least c=false:=by
 simp [bi,h1,h2]
 omega
theorem bq {least c:Int} (h:c<least∨1114111<c∨(55296≤c∧c<57344)):bi least c=true:=by
 simp [bi]
 omega
theorem sR {a:Int} (h:a<128):cv a=(1,0,a):=by unfold cv;rw [if_pos h]
theorem pT {a:Int} (h:194≤a∧a<224):cv a=(2,128,a-192):=by unfold cv;rw [if_neg (by omega),if_pos h]
theorem pS {a:Int} (h:224≤a∧a<240):cv a=(3,2048,a-224):=by unfold cv;rw [if_neg (by omega),if_neg (by omega),if_pos h]
theorem pR {a:Int} (h:240≤a∧a<245):cv a=(4,65536,a-240):=by unfold cv;rw [if_neg (by omega),if_neg (by omega),if_neg (by omega),if_pos h]
theorem AR {a:Int} (h:(128≤a∧a<194)∨245≤a):cv a=(0,0,0):=by unfold cv;rw [if_neg (by omega),if_neg (by omega),if_neg (by omega),if_neg (by omega)]
theorem fB {s:ByteArray} {p:Nat} (h:(128≤ah s p∧ah s p<194)∨245≤ah s p):au s p=0:=by
 unfold au
 rw [AR h]
 simp
def cR (a:Int):Nat×Int×Int:=if a<128 then (1,0,a) else if 192≤a∧a<224 then (2,128,a-192) else if 224≤a∧a<240 then (3,2048,a-224) else if 240≤a∧a<248 then (4,65536,a-240) else (0,0,0)
theorem ow {a:Int} (h:a<128):cR a=(1,0,a):=by unfold cR;rw [if_pos h]
theorem jq {a:Int} (h:192≤a∧a<224):cR a=(2,128,a-192):=by unfold cR;rw [if_neg (by omega),if_pos h]
theorem kt {a:Int} (h:224≤a∧a<240):cR a=(3,2048,a-224):=by unfold cR;rw [if_neg (by omega),if_neg (by omega),if_pos h]
theorem jp {a:Int} (h:240≤a∧a<248):cR a=(4,65536,a-240):=by unfold cR;rw [if_neg (by omega),if_neg (by omega),if_neg (by omega),if_pos h]
theorem oy {a:Int} (h:(128≤a∧a<192)∨248≤a):cR a=(0,0,0):=by unfold cR;rw [if_neg (by omega),if_neg (by omega),if_neg (by omega),if_neg (by omega)]
theorem ip {s:ByteArray} {p:Nat} {c:Int}:∀ {k:Nat} {d:Int},aR s p c k=some d→c * 64 ^ k≤d∧d<(c+1) * 64 ^ k
 | 0,d,h=>by
   simp only [aR,Option.some.injEq] at h
   subst h
   simp
   omega
 | k+1,d,h=>by
   simp only [aR] at h
   cases hc:aR s p c k with
   | none=>rw [hc] at h;cases h
   | some x =>
     rw [hc] at h
     simp only at h
     obtain ⟨h1,h2⟩:=ip hc
     split at h
     ·rename_i hb
      simp only [Option.some.injEq] at h
      rw [Int.pow_succ,← Int.mul_assoc,← Int.mul_assoc]
      generalize (c * 64 ^ k:Int)=A at *
      generalize ((c+1) * 64 ^ k:Int)=C at *
      omega
     ·cases h
theorem mu {s:ByteArray} {p n:Nat} {least c0:Int} (hl:cR (ah s p)=(n,least,c0)) (hn:n≠0):au s p=if s.size<p+n then 0 else match aR s p c0 (n-1) with
 | none=>0
 | some c=>if bi least c=true then 0 else n:=by
 obtain ⟨h0,h9⟩:=az s p
 have hcls:ah s p<128∨(192≤ah s p∧ah s p<194)∨(194≤ah s p∧ah s p<224)∨(224≤ah s p∧ah s p<240)∨(240≤ah s p∧ah s p<245)∨(245≤ah s p∧ah s p<248)∨((128≤ah s p∧ah s p<192)∨248≤ah s p):=by omega
 have same:cv (ah s p)=(n,least,c0)→au s p=if s.size<p+n then 0 else match aR s p c0 (n-1) with
  | none=>0
  | some c=>if bi least c=true then 0 else n:=fun hl=>by
  unfold au
  rw [hl]
  simp only
  by_cases hs:s.size<p+n
  ·rw [if_pos (.inr hs),if_pos hs]
  ·rw [if_neg (by omega),if_neg hs]
 have none0:(∀ c,aR s p c0 (n-1)=some c→bi least c=true)→au s p=0→au s p=if s.size<p+n then 0 else match aR s p c0 (n-1) with
  | none=>0
  | some c=>if bi least c=true then 0 else n:=fun ho hz=>by
  rw [hz]
  split
  ·rfl
  ·split
   ·rfl
   ·rename_i c hc
    rw [if_pos (ho c hc)]
 rcases hcls with h | h | h | h | h | h | h
 ·exact same (by rw [sR h,← hl,ow h])
 ·rw [jq (by omega)] at hl
  simp only [Prod.mk.injEq] at hl
  obtain ⟨rfl,rfl,rfl⟩:=hl
  refine none0 (fun c hc=>bq (.inl ?_)) (fB (.inl (by omega)))
  have:=(ip hc).2
  simp at this
  omega
 ·exact same (by rw [pT h,← hl,jq (by omega)])
 ·exact same (by rw [pS h,← hl,kt h])
 ·exact same (by rw [pR h,← hl,jp (by omega)])
 ·rw [jp (by omega)] at hl
  simp only [Prod.mk.injEq] at hl
  obtain ⟨rfl,rfl,rfl⟩:=hl
  refine none0 (fun c hc=>bq (.inr (.inl ?_))) (fB (.inr (by omega)))
  have:=(ip hc).1
  simp at this
  omega
 ·rw [oy h] at hl
  simp only [Prod.mk.injEq] at hl
  exact absurd hl.1.symm hn
theorem iP {s:ByteArray} {p:Nat} (h:(128≤ah s p∧ah s p<192)∨248≤ah s p):au s p=0:=fB (by omega)
theorem cl {s:ByteArray} {p n:Nat} {least c0:Int} (hl:cR (ah s p)=(n,least,c0)) (hn:n≠0) (hs:s.size<p+n):au s p=0:=by rw [mu hl hn,if_pos hs]
theorem bY {s:ByteArray} {p n k:Nat} {least c0:Int} (hl:cR (ah s p)=(n,least,c0)) (hn:n≠0) (hk:k≤n-1) (hc:aR s p c0 k=none):au s p=0:=by
 rw [mu hl hn,jy hk hc]
 split<;>rfl
theorem b9 {s:ByteArray} {p n:Nat} {least c0 c:Int} (hl:cR (ah s p)=(n,least,c0)) (hn:n≠0) (hs:p+n≤s.size) (hc:aR s p c0 (n-1)=some c):au s p=if bi least c=true then 0 else n:=by
 rw [mu hl hn,if_neg (by omega),hc]
end Go.Proofs.YtiefeajappjnbaaGreatDoor
