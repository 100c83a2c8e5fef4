/- What a stable sort does, on functions from places to things: other orders of a range, sorted ranges, rotations, the merge by a cut (plain: no program here). -/
import Derived.Test.YtniljgkkcnekgaaGreatDoorProg
import Derived.Test.YtniljgkkcnekgaaGreatDoorGA
import Derived.Test.YtniljgkkcnekgaaGreatDoorGB
import Derived.Test.YtniljgkkcnekgaaGreatDoorGF
import Derived.Test.YtniljgkkcnekgaaGreatDoorGC
import Derived.Test.YtniljgkkcnekgaaGreatDoorGK
import Derived.Lib.Bytealg
namespace Go.Proofs.YtniljgkkcnekgaaGreatDoor
namespace Stb
section
variable {α:Type}
def PermOn (a b:Nat) (f g:Nat→α):Prop:=∃ s t:Nat→Nat,(∀ k,a≤k→k<b→(a≤s k∧s k<b)∧a≤t k∧t k<b)∧(∀ k,t (s k)=k∧s (t k)=k)∧(∀ k,¬ (a≤k∧k<b)→s k=k∧t k=k)∧∀ k,g k=f (s k)
theorem PermOn.refl (a b:Nat) (f:Nat→α):PermOn a b f f:=⟨id,id,fun _ h1 h2=>⟨⟨h1,h2⟩,h1,h2⟩,fun _=>⟨rfl,rfl⟩,fun _ _=>⟨rfl,rfl⟩,fun _=>rfl⟩
theorem PermOn.trans {a b:Nat} {f g h:Nat→α} (x:PermOn a b f g) (y:PermOn a b g h):PermOn a b f h:=by
 obtain ⟨s,t,h1,h2,h3,h4⟩:=x
 obtain ⟨u,v,k1,k2,k3,k4⟩:=y
 refine ⟨fun k=>s (u k),fun k=>v (t k),fun k ha hb=>?_,fun k=>?_,fun k hk=>?_,fun k=>by rw [k4,h4]⟩
 ·obtain ⟨⟨p1,p2⟩,_,_⟩:=k1 k ha hb
  obtain ⟨_,q1,q2⟩:=h1 k ha hb
  exact ⟨(h1 _ p1 p2).1,(k1 _ q1 q2).2⟩
 ·exact ⟨by show v (t (s (u k)))=k;rw [(h2 _).1,(k2 _).1],by show s (u (v (t k)))=k;rw [(k2 _).2,(h2 _).2]⟩
 ·show s (u k)=k∧v (t k)=k
  rw [(k3 k hk).1,(h3 k hk).1,(h3 k hk).2,(k3 k hk).2]
  exact ⟨rfl,rfl⟩
theorem PermOn.wide {a b a' b':Nat} {f g:Nat→α} (x:PermOn a b f g) (ha:a'≤a) (hb:b≤b'):PermOn a' b' f g:=by
 obtain ⟨s,t,h1,h2,h3,h4⟩:=x
 refine ⟨s,t,fun k h5 h6=>?_,h2,fun k hk=>h3 k (by omega),h4⟩
 by_cases h:a≤k∧k<b
 ·obtain ⟨⟨p1,p2⟩,q1,q2⟩:=h1 k h.1 h.2
  omega
 ·rw [(h3 k h).1,(h3 k h).2]
  exact ⟨⟨h5,h6⟩,h5,h6⟩
theorem PermOn.out {a b:Nat} {f g:Nat→α} (x:PermOn a b f g) {k:Nat} (hk:¬ (a≤k∧k<b)):g k=f k:=by
 obtain ⟨s,t,_,_,h3,h4⟩:=x
 rw [h4,(h3 k hk).1]
theorem PermOn.mem {a b:Nat} {f g:Nat→α} (x:PermOn a b f g) {k:Nat} (ha:a≤k) (hb:k<b):∃ j,a≤j∧j<b∧g k=f j:=by
 obtain ⟨s,t,h1,_,_,h4⟩:=x
 exact ⟨s k,(h1 k ha hb).1.1,(h1 k ha hb).1.2,h4 k⟩
def swap (f:Nat→α) (i j:Nat):Nat→α:=fun k=>if k=i then f j else if k=j then f i else f k
def swapB (f:Nat→α) (a b n:Nat):Nat→α:=fun k=>if a≤k∧k<a+n then f (k+(b-a)) else if b≤k∧k<b+n then f (k-(b-a)) else f k
def rot (f:Nat→α) (a m b:Nat):Nat→α:=fun k=>if a≤k∧k<a+(b-m) then f (k+(m-a)) else if a+(b-m)≤k∧k<b then f (k-(b-m)) else f k
theorem swapB_0 (f:Nat→α) (a b:Nat):swapB f a b 0=f:=by
 funext k
 unfold swapB
 rw [if_neg (by omega),if_neg (by omega)]
theorem swapB_s (f:Nat→α) {a b n:Nat} (h:a+n<b):swapB f a b (n+1)=swap (swapB f a b n) (a+n) (b+n):=by
 funext k
 unfold swap swapB
 repeat' split
 all_goals first | (exfalso;omega) | (congr 1;omega) | rfl
theorem rot_gt (g:Nat→α) {m i j:Nat} (h:j<i) (hi:i≤m):rot g (m-i) m (m+j)=rot (swapB g (m-i) m j) (m-(i-j)) m (m+j):=by
 funext k
 unfold rot swapB
 repeat' split
 all_goals first | (exfalso;omega) | (congr 1;omega) | rfl
theorem rot_lt (g:Nat→α) {m i j:Nat} (h:i<j) (hi:i≤m):rot g (m-i) m (m+j)=rot (swapB g (m-i) (m+j-i) i) (m-i) m (m+(j-i)):=by
 funext k
 unfold rot swapB
 repeat' split
 all_goals first | (exfalso;omega) | (congr 1;omega) | rfl
theorem rot_eq (g:Nat→α) {m i:Nat} (hi:i≤m):rot g (m-i) m (m+i)=swapB g (m-i) m i:=by
 funext k
 unfold rot swapB
 repeat' split
 all_goals first | (exfalso;omega) | (congr 1;omega) | rfl
theorem rot_no {f:Nat→α} {a m b:Nat} (h:a=m∨m=b) (h2:a≤m) (h3:m≤b):rot f a m b=f:=by
 funext k
 unfold rot
 repeat' split
 all_goals first | (exfalso;omega) | (congr 1;omega) | rfl
theorem perm_rot (f:Nat→α) {a m b:Nat} (h1:a≤m) (h2:m≤b):PermOn a b f (rot f a m b):=by
 refine ⟨fun k=>if a≤k∧k<a+(b-m) then k+(m-a) else if a+(b-m)≤k∧k<b then k-(b-m) else k,fun k=>if a≤k∧k<m then k+(b-m) else if m≤k∧k<b then k-(m-a) else k,fun k ha hb=>?_,fun k=>?_,fun k hk=>?_,fun k=>?_⟩
 ·constructor
  ·simp only
   repeat' split
   all_goals omega
  ·simp only
   repeat' split
   all_goals omega
 ·constructor
  ·simp only
   repeat' split
   all_goals omega
  ·simp only
   repeat' split
   all_goals omega
 ·simp only
  constructor
  ·rw [if_neg (by omega),if_neg (by omega)]
  ·rw [if_neg (by omega),if_neg (by omega)]
 ·unfold rot
  simp only
  repeat' split
  all_goals rfl
structure Ord (le:α→α→Prop):Prop where
 trans:∀ x y z,le x y→le y z→le x z
 total:∀ x y,le x y∨le y x
def SortedOn (le:α→α→Prop) (f:Nat→α) (a b:Nat):Prop:=∀ i j,a≤i→i<j→j<b→le (f i) (f j)
theorem Ord.refl {le:α→α→Prop} (O:Ord le) (x:α):le x x:=(O.total x x).elim id id
theorem SortedOn.le {le:α→α→Prop} (O:Ord le) {f:Nat→α} {a b i j:Nat} (h:SortedOn le f a b) (h1:a≤i) (h2:i≤j) (h3:j<b):le (f i) (f j):=by
 rcases Nat.lt_or_eq_of_le h2 with h4 | rfl
 ·exact h i j h1 h4 h3
 ·exact O.refl _
theorem SortedOn.part {le:α→α→Prop} {f:Nat→α} {a b a' b':Nat} (h:SortedOn le f a b) (h1:a≤a') (h2:b'≤b):SortedOn le f a' b':=fun i j hi hj hk=>h i j (by omega) hj (by omega)
theorem SortedOn.of_eq {le:α→α→Prop} {f g:Nat→α} {a b:Nat} (h:SortedOn le f a b) (he:∀ k,a≤k→k<b→g k=f k):SortedOn le g a b:=fun i j hi hj hk=>by
 rw [he i hi (by omega),he j (by omega) hk]
 exact h i j hi hj hk
theorem sorted_one {le:α→α→Prop} {f:Nat→α} {a b:Nat} (h:b≤a+1):SortedOn le f a b:=fun i j hi hj hk=>by omega
theorem SortedOn.shift {le:α→α→Prop} {f g:Nat→α} {a b c d:Nat} (h:SortedOn le f a b) (x y:Nat) (he:∀ k,c≤k→k<d→a≤k+x-y∧k+x-y<b∧g k=f (k+x-y)) (hxy:∀ k,c≤k→y≤k+x):SortedOn le g c d:=fun i j hi hj hk=>by
 obtain ⟨p1,p2,p3⟩:=he i hi (by omega)
 obtain ⟨q1,q2,q3⟩:=he j (by omega) hk
 rw [p3,q3]
 exact h _ _ p1 (by have:=hxy i hi;omega) q2
structure Cut (le:α→α→Prop) (f:Nat→α) (a m b start en:Nat):Prop where
 a_s:a≤start
 s_m:start≤m
 m_e:m≤en
 e_b:en≤b
 low:∀ x y,((a≤x∧x<start)∨(m≤x∧x<en))→((start≤y∧y<m)∨(en≤y∧y<b))→le (f x) (f y)
theorem cut_of {le:α→α→Prop} (O:Ord le) {f:Nat→α} {a m b s0 r0 start:Nat} (h1:a<m) (h2:m<b) (S1:SortedOn le f a m) (S2:SortedOn le f m b)
 (hs:s0=if (a+b) / 2<m then (a+b) / 2+m-b else a) (hr:r0=if (a+b) / 2<m then (a+b) / 2 else m) (hs1:s0≤start) (hs2:start≤r0)
 (hlo:∀ c,s0≤c→c<start→le (f c) (f ((a+b) / 2+m-1-c))) (hhi:∀ c,start≤c→c<r0→¬ le (f c) (f ((a+b) / 2+m-1-c))):Cut le f a m b start ((a+b) / 2+m-start):=by
 obtain ⟨mid,hmid⟩:∃ mid,(a+b) / 2=mid:=⟨_,rfl⟩
 have hm1:a+b≤2 * mid+1:=by omega
 have hm2:2 * mid≤a+b:=by omega
 rw [hmid] at hs hr hlo hhi ⊢
 have hb:a≤s0∧r0≤m∧mid+m-s0≤b∧m≤mid+m-r0:=by
  rw [hs,hr]
  split
  ·omega
  ·omega
 obtain ⟨b1,b2,b3,b4⟩:=hb
 refine ⟨by omega,by omega,by omega,by omega,fun x y hx hy=>?_⟩
 rcases hx with ⟨x1,x2⟩ | ⟨x1,x2⟩<;>rcases hy with ⟨y1,y2⟩ | ⟨y1,y2⟩
 ·exact S1 x y x1 (by omega) y2
 ·by_cases hc:s0<start
  ·have h:=hlo (start-1) (by omega) (by omega)
   rw [show mid+m-1-(start-1)=mid+m-start by omega] at h
   exact O.trans _ _ _ (S1.le O x1 (by omega) (by omega)) (O.trans _ _ _ h (S2.le O (by omega) y1 y2))
  ·exfalso
   rw [hs] at hc hs1
   split at hc
   ·omega
   ·omega
 ·by_cases hc:start<r0
  ·have h:=(O.total (f start) (f (mid+m-1-start))).resolve_left (hhi start (Nat.le_refl _) hc)
   exact O.trans _ _ _ (S2.le O x1 (by omega) (by omega)) (O.trans _ _ _ h (S1.le O (by omega) y1 y2))
  ·exfalso
   rw [hr] at hc hs2
   split at hc
   ·omega
   ·omega
 ·exact S2 x y x1 (by omega) y2
theorem Cut.parts {le:α→α→Prop} {f:Nat→α} {a m b start en:Nat} (C:Cut le f a m b start en) (S1:SortedOn le f a m) (S2:SortedOn le f m b) :
 SortedOn le (rot f start m en) a start∧SortedOn le (rot f start m en) start (start+(en-m))∧SortedOn le (rot f start m en) (start+(en-m)) en∧SortedOn le (rot f start m en) en b:=by
 obtain ⟨c1,c2,c3,c4,_⟩:=C
 refine ⟨(S1.part (Nat.le_refl _) c2).of_eq fun k h1 h2=>?_,S2.shift (m-start) 0 (fun k h1 h2=>⟨by omega,by omega,?_⟩) (fun _ _=>by omega),S1.shift 0 (en-m) (fun k h1 h2=>⟨by omega,by omega,?_⟩) (fun _ _=>by omega),(S2.part c3 (Nat.le_refl _)).of_eq fun k h1 h2=>?_⟩
 ·unfold rot
  rw [if_neg (by omega),if_neg (by omega)]
 ·unfold rot
  rw [if_pos (by omega)]
  congr 1
 ·unfold rot
  rw [if_neg (by omega),if_pos (by omega)]
  congr 1
 ·unfold rot
  rw [if_neg (by omega),if_neg (by omega)]
theorem Cut.merge {le:α→α→Prop} {f g1 g:Nat→α} {a m b start en mid:Nat} (C:Cut le f a m b start en) (hm:mid=start+(en-m)) (P1:PermOn a mid (rot f start m en) g1) (S1:SortedOn le g1 a mid) (P2:PermOn mid b g1 g) (S2:SortedOn le g mid b):PermOn a b f g∧SortedOn le g a b:=by
 obtain ⟨c1,c2,c3,c4,hl⟩:=C
 refine ⟨((perm_rot f c2 c3).wide c1 c4).trans ((P1.wide (Nat.le_refl _) (by omega)).trans (P2.wide (by omega) (Nat.le_refl _))),fun i j hi hij hj=>?_⟩
 by_cases h1:j<mid
 ·rw [P2.out (by omega),P2.out (by omega)]
  exact S1 i j hi hij h1
 by_cases h2:mid≤i
 ·exact S2 i j h2 hij hj
 rw [P2.out (by omega:¬ (mid≤i∧i<b))]
 obtain ⟨x,x1,x2,x3⟩:=P1.mem hi (by omega:i<mid)
 obtain ⟨y,y1,y2,y3⟩:=P2.mem (by omega:mid≤j) hj
 rw [x3,y3,P1.out (by omega)]
 unfold rot
 by_cases h3:x<start
 ·rw [if_neg (by omega),if_neg (by omega)]
  by_cases h4:y<en
  ·rw [if_neg (by omega),if_pos (by omega)]
   exact hl _ _ (.inl ⟨x1,h3⟩) (.inl ⟨by omega,by omega⟩)
  ·rw [if_neg (by omega),if_neg (by omega)]
   exact hl _ _ (.inl ⟨x1,h3⟩) (.inr ⟨by omega,y2⟩)
 ·rw [if_pos (by omega)]
  by_cases h4:y<en
  ·rw [if_neg (by omega),if_pos (by omega)]
   exact hl _ _ (.inr ⟨by omega,by omega⟩) (.inl ⟨by omega,by omega⟩)
  ·rw [if_neg (by omega),if_neg (by omega)]
   exact hl _ _ (.inr ⟨by omega,by omega⟩) (.inr ⟨by omega,y2⟩)
def up1 (f:Nat→α) (a i:Nat):Nat→α:=fun k=>if a≤k∧k+1<i then f (k+1) else if a≤k∧k+1=i then f a else f k
def dn1 (f:Nat→α) (i m:Nat):Nat→α:=fun k=>if k=i∧i≤m then f m else if i<k∧k≤m then f (k-1) else f k
theorem up1_rot (f:Nat→α) {a i:Nat} (h:a<i):up1 f a i=rot f a (a+1) i:=by
 funext k
 unfold up1 rot
 repeat' split
 all_goals first | (exfalso;omega) | (congr 1;omega) | rfl
theorem dn1_rot (f:Nat→α) {i m:Nat} (h:i≤m):dn1 f i m=rot f i m (m+1):=by
 funext k
 unfold dn1 rot
 repeat' split
 all_goals first | (exfalso;omega) | (congr 1;omega) | rfl
theorem up1_0 (f:Nat→α) (a:Nat):up1 f a (a+1)=f:=by
 funext k
 unfold up1
 repeat' split
 all_goals first | (exfalso;omega) | (congr 1;omega) | rfl
theorem up1_s (f:Nat→α) {a k:Nat} (h:a≤k):up1 f a (k+2)=swap (up1 f a (k+1)) k (k+1):=by
 funext j
 unfold swap up1
 repeat' split
 all_goals first | (exfalso;omega) | (congr 1;omega) | rfl
theorem dn1_0 (f:Nat→α) (m:Nat):dn1 f m m=f:=by
 funext k
 unfold dn1
 repeat' split
 all_goals first | (exfalso;omega) | (congr 1;omega) | rfl
theorem dn1_s (f:Nat→α) {i m:Nat} (h:i<m):dn1 f i m=swap (dn1 f (i+1) m) (i+1) i:=by
 funext j
 unfold swap dn1
 repeat' split
 all_goals first | (exfalso;omega) | (congr 1;omega) | rfl
theorem up1_sorted {le:α→α→Prop} (O:Ord le) {f:Nat→α} {a i b:Nat} (h1:a<i) (h2:i≤b) (S:SortedOn le f (a+1) b) (hlo:∀ h,a+1≤h→h<i→¬ le (f a) (f h)) (hhi:∀ h,i≤h→h<b→le (f a) (f h)):PermOn a b f (up1 f a i)∧SortedOn le (up1 f a i) a b:=by
 refine ⟨by rw [up1_rot f h1];exact (perm_rot f (by omega) (by omega)).wide (Nat.le_refl _) h2,fun x y hx hxy hy=>?_⟩
 unfold up1
 by_cases c1:y+1<i
 ·rw [if_pos (by omega),if_pos (by omega)]
  exact S _ _ (by omega) (by omega) (by omega)
 by_cases c2:y+1=i
 ·rw [if_pos (by omega),if_neg (by omega),if_pos (by omega)]
  exact (O.total _ _).resolve_left (hlo _ (by omega) (by omega))
 rw [if_neg (by omega:¬ (a≤y∧y+1<i)),if_neg (by omega:¬ (a≤y∧y+1=i))]
 by_cases c3:x+1<i
 ·rw [if_pos (by omega)]
  exact S _ _ (by omega) (by omega) hy
 by_cases c4:x+1=i
 ·rw [if_neg (by omega),if_pos (by omega)]
  exact hhi _ (by omega) hy
 ·rw [if_neg (by omega),if_neg (by omega)]
  exact S _ _ (by omega) hxy hy
theorem dn1_sorted {le:α→α→Prop} (O:Ord le) {f:Nat→α} {a i m:Nat} (h1:a≤i) (h2:i≤m) (S:SortedOn le f a m) (hlo:∀ h,a≤h→h<i→le (f h) (f m)) (hhi:∀ h,i≤h→h<m→¬ le (f h) (f m)):PermOn a (m+1) f (dn1 f i m)∧SortedOn le (dn1 f i m) a (m+1):=by
 refine ⟨by rw [dn1_rot f h2];exact (perm_rot f h2 (by omega)).wide h1 (Nat.le_refl _),fun x y hx hxy hy=>?_⟩
 unfold dn1
 by_cases c1:y<i
 ·rw [if_neg (by omega),if_neg (by omega),if_neg (by omega),if_neg (by omega)]
  exact S _ _ hx hxy (by omega)
 by_cases c2:y=i
 ·rw [if_neg (by omega),if_neg (by omega),if_pos (by omega)]
  exact hlo _ hx (by omega)
 rw [if_neg (by omega:¬ (y=i∧i≤m)),if_pos (by omega:i<y∧y≤m)]
 by_cases c3:x<i
 ·rw [if_neg (by omega),if_neg (by omega)]
  exact S _ _ hx (by omega) (by omega)
 by_cases c4:x=i
 ·rw [if_pos (by omega)]
  exact (O.total _ _).resolve_left (hhi _ (by omega) (by omega))
 ·rw [if_neg (by omega),if_pos (by omega)]
  exact S _ _ (by omega) (by omega) (by omega)
end
section
variable {α:Type}
theorem PermOn.keep {le:α→α→Prop} {f g:Nat→α} {a b x y:Nat} (P:PermOn a b f g) (S:SortedOn le f x y) (h:y≤a∨b≤x):SortedOn le g x y:=S.of_eq fun k h1 h2=>P.out (by omega)
def Runs0 (le:α→α→Prop) (f:Nat→α) (s p:Nat):Prop:=∀ q,q<p→SortedOn le f (q * s) (q * s+s)
def Runs (le:α→α→Prop) (f:Nat→α) (s n p:Nat):Prop:=∀ q,p≤q→q * s<n→SortedOn le f (q * s) (min (q * s+s) n)
theorem mul_lt_s {q p s:Nat} (h:q<p):q * s+s≤p * s:=by
 have:=Nat.mul_le_mul_right s (show q+1≤p by omega)
 rw [Nat.add_mul,Nat.one_mul] at this
 exact this
theorem Runs0.nil (le:α→α→Prop) (f:Nat→α) (s:Nat):Runs0 le f s 0:=fun q h=>by omega
theorem Runs0.step {le:α→α→Prop} {f g:Nat→α} {s p:Nat} (R:Runs0 le f s p) (P:PermOn (p * s) (p * s+s) f g) (S:SortedOn le g (p * s) (p * s+s)):Runs0 le g s (p+1):=fun q h=>by
 by_cases hq:q<p
 ·exact P.keep (R q hq) (.inl (mul_lt_s hq))
 ·obtain rfl:q=p:=by omega
  exact S
theorem Runs0.last {le:α→α→Prop} {f g:Nat→α} {s p n:Nat} (R:Runs0 le f s p) (h0:p * s≤n) (hn:n<p * s+s) (P:PermOn (p * s) n f g) (S:SortedOn le g (p * s) n):Runs le g s n 0:=fun q _ h=>by
 by_cases hq:q<p
 ·have:=mul_lt_s (s:=s) hq
  rw [Nat.min_eq_left (by omega)]
  exact P.keep (R q hq) (.inl this)
 ·by_cases hq2:q=p
  ·subst hq2
   rw [Nat.min_eq_right (by omega)]
   exact S
  ·have:=mul_lt_s (s:=s) (show p<q by omega)
   omega
theorem two_mul_s (q s:Nat):q * (2 * s)=2 * q * s:=by rw [Nat.mul_comm 2 q,Nat.mul_assoc]
theorem Runs.step {le:α→α→Prop} {f g:Nat→α} {s p n:Nat} (R:Runs le f s n (2 * p)) (P:PermOn (p * (2 * s)) (p * (2 * s)+2 * s) f g):Runs le g s n (2 * (p+1)):=fun q h1 h2=>by
 refine P.keep (R q (by omega) h2) (.inr ?_)
 have:=Nat.mul_le_mul_right s h1
 rw [two_mul_s]
 rw [show 2 * (p+1) * s=2 * p * s+2 * s by rw [← Nat.add_mul];rfl] at this
 omega
theorem Runs.last {le:α→α→Prop} {f:Nat→α} {s p n:Nat} (R:Runs le f s n (2 * p)) (R0:Runs0 le f (2 * s) p) (hn:n<p * (2 * s)+2 * s) (h:n≤p * (2 * s)+s):Runs le f (2 * s) n 0:=fun q _ h2=>by
 by_cases hq:q<p
 ·have:=mul_lt_s (s:=2 * s) hq
  by_cases hn2:q * (2 * s)+2 * s≤n
  ·rw [Nat.min_eq_left hn2]
   exact R0 q hq
  ·exact (R0 q hq).part (Nat.le_refl _) (Nat.min_le_left _ _)
 ·by_cases hq2:q=p
  ·subst hq2
   have:=R (2 * q) (Nat.le_refl _) (by rw [← two_mul_s];exact h2)
   rw [← two_mul_s] at this
   rw [Nat.min_eq_right (by omega)] at this ⊢
   exact this
  ·have:=mul_lt_s (s:=2 * s) (show p<q by omega)
   omega
theorem Runs.all {le:α→α→Prop} {f:Nat→α} {s n:Nat} (R:Runs le f s n 0) (h:n≤s):SortedOn le f 0 n:=by
 by_cases h0:n=0
 ·subst h0
  exact fun i j _ _ h3=>by omega
 ·have:=R 0 (Nat.le_refl _) (by omega)
  rw [Nat.zero_mul,Nat.zero_add,Nat.min_eq_right h] at this
  exact this
theorem Runs.left {le:α→α→Prop} {f:Nat→α} {s p n:Nat} (R:Runs le f s n (2 * p)) (h:p * (2 * s)+s<n):SortedOn le f (p * (2 * s)) (p * (2 * s)+s):=by
 have:=R (2 * p) (Nat.le_refl _) (by rw [← two_mul_s];omega)
 rw [← two_mul_s,Nat.min_eq_left (by omega)] at this
 exact this
theorem Runs.right {le:α→α→Prop} {f:Nat→α} {s p n b:Nat} (R:Runs le f s n (2 * p)) (h:p * (2 * s)+s<n) (hb:b=min (p * (2 * s)+2 * s) n):SortedOn le f (p * (2 * s)+s) b:=by
 have e:(2 * p+1) * s=p * (2 * s)+s:=by rw [Nat.add_mul,Nat.one_mul,two_mul_s]
 have:=R (2 * p+1) (by omega) (by rw [e];exact h)
 rw [e] at this
 rw [hb,show p * (2 * s)+2 * s=p * (2 * s)+s+s by omega]
 exact this
end
end Stb
end Go.Proofs.YtniljgkkcnekgaaGreatDoor

/- Rows of fourteen cells (a field: its key, its value) that lie side by side in a block of their own. -/
namespace Go.Proofs.YtniljgkkcnekgaaGreatDoor
open Go.RowKit Stb
theorem foldl_len14:∀ (l:List Nat) (f:Nat→List Value),(∀ k∈l,(f k).length=14)→(l.flatMap f).length=l.length * 14
 | [],_,_=>rfl
 | a::r,f,h=>by
   rw [List.flatMap_cons,List.length_append,h a (List.mem_cons_self ..),foldl_len14 r f (fun k hk=>h k (List.mem_cons_of_mem _ hk)),List.length_cons]
   omega
def flatR (n:Nat) (f:Nat→List Value):List Value:=(List.range n).flatMap f
theorem flatR_s (n:Nat) (f:Nat→List Value):flatR (n+1) f=flatR n f++f n:=by
 unfold flatR
 rw [List.range_succ,List.flatMap_append,List.flatMap_cons,List.flatMap_nil,List.append_nil]
theorem flatR_len {n:Nat} {f:Nat→List Value} (h:∀ k,k<n→(f k).length=14):(flatR n f).length=n * 14:=by
 unfold flatR
 rw [foldl_len14 _ _ (fun k hk=>h k (List.mem_range.1 hk)),List.length_range]
theorem flatR_get:∀ {n:Nat} {f:Nat→List Value},(∀ k,k<n→(f k).length=14)→∀ {i j:Nat},i<n→j<14→(flatR n f)[i * 14+j]?=(f i)[j]?
 | 0,_,_,_,_,hi,_=>by omega
 | n+1,f,h,i,j,hi,hj=>by
   have hl:=flatR_len (n:=n) (f:=f) (fun k hk=>h k (by omega))
   rw [flatR_s]
   rcases Nat.lt_or_ge i n with h1 | h1
   ·rw [List.getElem?_append_left (by omega)]
    exact flatR_get (fun k hk=>h k (by omega)) h1 hj
   ·obtain rfl:i=n:=by omega
    rw [List.getElem?_append_right (by omega),hl]
    congr 1
    omega
def upd (f:Nat→List Value) (i:Nat) (r:List Value):Nat→List Value:=fun k=>if k=i then r else f k
theorem swap_upd (f:Nat→List Value) (i j:Nat):swap f i j=upd (upd f i (f j)) j (f i):=by
 funext k
 unfold swap upd
 by_cases h1:k=i
 ·by_cases h2:k=j
  ·subst h1
   subst h2
   simp
  ·simp [h1]
   intro h3
   exact absurd (h1.trans h3) h2
 ·by_cases h2:k=j
  ·simp [h2]
   intro h3
   rw [h3]
  ·simp [h1,h2]
theorem upd_len {n i:Nat} {f:Nat→List Value} {r:List Value} (h:∀ k,k<n→(f k).length=14) (hr:r.length=14):∀ k,k<n→(upd f i r k).length=14:=fun k hk=>by
 unfold upd
 split
 ·exact hr
 ·exact h k hk
theorem flatR_set {n i:Nat} {f:Nat→List Value} {r tl:List Value} (h:∀ k,k<n→(f k).length=14) (hr:r.length=14) (hi:i<n):flatR n (upd f i r)++tl=(flatR n f++tl).take (i * 14)++r++(flatR n f++tl).drop (i * 14+r.length):=by
 have h2:=upd_len (i:=i) h hr
 have l1:=flatR_len h
 have l2:=flatR_len h2
 have hin:i * 14+14≤n * 14:=by have:=Nat.mul_le_mul_right 14 (show i+1≤n by omega);omega
 apply List.ext_getElem?
 intro q
 rw [hr]
 by_cases hq:q<n * 14
 ·have e:q=q / 14 * 14+q % 14:=by omega
  have hq1:q / 14<n:=by omega
  have hq2:q % 14<14:=by omega
  rw [List.getElem?_append_left (by omega)]
  by_cases c1:q<i * 14
  ·rw [List.append_assoc,List.getElem?_append_left (by rw [List.length_take,List.length_append];omega),List.getElem?_take,if_pos c1,List.getElem?_append_left (by omega),e,flatR_get h2 hq1 hq2,flatR_get h hq1 hq2]
   unfold upd
   rw [if_neg (by omega)]
  by_cases c2:q<i * 14+14
  ·rw [List.getElem?_append_left (by rw [List.length_append,List.length_take,List.length_append];omega),List.getElem?_append_right (by rw [List.length_take,List.length_append];omega),e,flatR_get h2 hq1 hq2]
   unfold upd
   rw [if_pos (by omega),List.length_take,List.length_append]
   congr 1
   omega
  ·rw [List.getElem?_append_right (by rw [List.length_append,List.length_take,List.length_append];omega),List.getElem?_drop,List.length_append,List.length_take,List.length_append,hr]
   rw [show i * 14+14+(q-(min (i * 14) ((flatR n f).length+tl.length)+14))=q by omega,List.getElem?_append_left (by omega),e,flatR_get h2 hq1 hq2,flatR_get h hq1 hq2]
   unfold upd
   rw [if_neg (by omega)]
 ·rw [List.getElem?_append_right (by omega),List.getElem?_append_right (by rw [List.length_append,List.length_take,List.length_append];omega),List.getElem?_drop,List.length_append,List.length_take,List.length_append,hr]
  rw [show i * 14+14+(q-(min (i * 14) ((flatR n f).length+tl.length)+14))=q by omega,List.getElem?_append_right (by omega),l1,l2]
def keyR (r:List Value):ByteArray:=match r with | .string s::_=>s | _=>⟨#[]⟩
structure RowsF (w:World) (b n:Nat) (f:Nat→List Value) (tl:List Value):Prop where
 row:RowT 76 w b (flatR n f++tl)
 len:∀ k,k<n→(f k).length=14
 one:∀ k,k<n→∀ v∈f k,v.oneCell'=true
 key:∀ k,k<n→(f k)[0]?=some (.string (keyR (f k)))
theorem RowsF.range {w:World} {b n i:Nat} {f:Nat→List Value} {tl:List Value} (h:RowsF w b n f tl) (hi:i<n):w.rangeAt b (i * 14) (f i):=fun j v hv=>by
 have hj:j<14:=by rw [← h.len i hi];exact (List.getElem?_eq_some_iff.1 hv).1
 have hin:i * 14+14≤n * 14:=by have:=Nat.mul_le_mul_right 14 (show i+1≤n by omega);omega
 refine h.row.cell ?_
 rw [List.getElem?_append_left (by rw [flatR_len h.len];omega),flatR_get h.len hi hj,hv]
theorem RowsF.put {w:World} {b n i j:Nat} {f:Nat→List Value} {tl:List Value} (h:RowsF w b n f tl) (_hi:i<n) (hj:j<n):RowsF (w.setRow b (flatR n (upd f i (f j))++tl).toArray) b n (upd f i (f j)) tl:=by
 refine ⟨h.row.setRow _,upd_len h.len (h.len j hj),fun k hkn=>?_,fun k hkn=>?_⟩
 ·unfold upd
  split
  ·exact h.one j hj
  ·exact h.one k hkn
 ·unfold upd
  split
  ·exact h.key j hj
  ·exact h.key k hkn
theorem RowsF.swapped {w:World} {b n i j:Nat} {f:Nat→List Value} {tl:List Value} (h:RowsF w b n f tl) (hi:i<n) (hj:j<n) :
 RowsF ((w.setRow b (flatR n (upd f i (f j))++tl).toArray).setRow b (flatR n (upd (upd f i (f j)) j (f i))++tl).toArray) b n (swap f i j) tl:=by
 rw [swap_upd]
 have h1:=h.put hi hj
 refine ⟨h1.row.setRow _,upd_len h1.len (h.len i hi),fun k hkn=>?_,fun k hkn=>?_⟩
 ·unfold upd
  split
  ·exact h.one i hi
  ·exact h1.one k hkn
 ·unfold upd
  split
  ·exact h.key i hi
  ·exact h1.key k hkn
theorem fit14 {n i:Nat} {f:Nat→List Value} {r tl:List Value} (h:∀ k,k<n→(f k).length=14) (hr:r.length=14) (hi:i<n):i * 14+r.length≤(flatR n f++tl).length:=by
 have hin:i * 14+14≤n * 14:=by have:=Nat.mul_le_mul_right 14 (show i+1≤n by omega);omega
 rw [List.length_append,flatR_len h,hr]
 omega
theorem FB.drew {pb:Nat} {a b:World} (h:FB pb a b):FB pb a b.drew:=⟨h.os,h.tape,h.output,h.size,h.block⟩
theorem RowsF.drew {w:World} {b n:Nat} {f:Nat→List Value} {tl:List Value} (h:RowsF w b n f tl):RowsF w.drew b n f tl:=⟨h.row.drew,h.len,h.one,h.key⟩
theorem RowsF.fb {w w':World} {b n:Nat} {f:Nat→List Value} {tl:List Value} (h:RowsF w b n f tl) (hb:Below w.heap.size w w'):RowsF w' b n f tl:=⟨h.row.then hb,h.len,h.one,h.key⟩
theorem sizeFLD14 {r:List Value} (h:r.length=14):(Tryz.prog.info? 76).map (·.size)=some r.length:=by rw [h];kernel_rfl
theorem FB.setRow {pb:Nat} {w:World} (new:Array Value):FB pb w (w.setRow pb new):=⟨rfl,rfl,rfl,by rw [setRow_size];exact Nat.le_refl _,fun k _ hn=>setRow_other w pb k new hn⟩
theorem put_list (l:List Value) (df:List Deferred) (t:Nat) (v:Value):(⟨l.toArray,df⟩:Act).put (some t) v=⟨(l.set t v).toArray,df⟩:=by simp [Act.put]
theorem wp_load_midL {P:Program} {op:Oper} {l:List Value} {df:List Deferred} {w:World} {K:Act→World→Prop} {Q:Exit→Act→World→Prop} (t:Nat) (hdst:op.dst=some t) (ty:TypeId) (x:Operand) (ho:op.op=.load ty x)
 (b o:Nat) (hx:(⟨l.toArray,df⟩:Act).eval x=.pointer (some ⟨b,o,none⟩)) (cs:List Value) (d:TypeDesc) (hc:w.rangeAt b o cs)
 (hu:P.underlying ty=some d) (hd:d.isRow=true) (hi:(P.info? ty).map (·.size)=some cs.length)
 (h:K ⟨(l.set t (.agg cs.toArray)).toArray,df⟩ w):op.wp P ⟨l.toArray,df⟩ w K Q :=
 wp_load_mid ty x ho b o hx cs d hc hu hd hi (by rw [hdst,put_list];exact h)
theorem wp_store_atL {P:Program} {o:Oper} {a:Act} {w:World} {K:Act→World→Prop} {Q:Exit→Act→World→Prop} (hdst:o.dst=none) (ty:TypeId) (x y:Operand) (ho:o.op=.store ty x y)
 (g q:Nat) (cells:List Value) (hx:a.eval x=.pointer (some ⟨g,q,none⟩)) (hy:a.eval y=.agg cells.toArray)
 (t:TypeId) (old new:List Value) (hg:RowT t w g old) (hi:(P.info? ty).map (·.size)=some cells.length)
 (hn:new=old.take q++cells++old.drop (q+cells.length)) (hfit:q+cells.length≤old.length) (h1:∀ v∈cells,v.oneCell'=true)
 (h:K a (w.setRow g new.toArray)):o.wp P a w K Q :=
 wp_store_at ty x y ho g q cells hx hy t old new hg hi hn hfit h1 (by rw [hdst];exact h)
theorem FB.swapped {pb:Nat} {a w:World} (h:FB pb a w) (n:Nat) (f:Nat→List Value) (tl:List Value) (i j:Nat) :
 FB pb a ((w.setRow pb (flatR n (upd f i (f j))++tl).toArray).setRow pb (flatR n (upd (upd f i (f j)) j (f i))++tl).toArray):=(h.trans (FB.setRow _)).trans (FB.setRow _)
end Go.Proofs.YtniljgkkcnekgaaGreatDoor

/- Rows of thirteen cells (a value) that lie side by side (printed by gentre.py). -/
namespace Go.Proofs.YtniljgkkcnekgaaGreatDoor
open Go.RowKit Stb
theorem foldl_len13:∀ (l:List Nat) (f:Nat→List Value),(∀ k∈l,(f k).length=13)→(l.flatMap f).length=l.length * 13
 | [],_,_=>rfl
 | a::r,f,h=>by
   rw [List.flatMap_cons,List.length_append,h a (List.mem_cons_self ..),foldl_len13 r f (fun k hk=>h k (List.mem_cons_of_mem _ hk)),List.length_cons]
   omega
def flatV (n:Nat) (f:Nat→List Value):List Value:=(List.range n).flatMap f
theorem flatV_s (n:Nat) (f:Nat→List Value):flatV (n+1) f=flatV n f++f n:=by
 unfold flatV
 rw [List.range_succ,List.flatMap_append,List.flatMap_cons,List.flatMap_nil,List.append_nil]
theorem flatV_len {n:Nat} {f:Nat→List Value} (h:∀ k,k<n→(f k).length=13):(flatV n f).length=n * 13:=by
 unfold flatV
 rw [foldl_len13 _ _ (fun k hk=>h k (List.mem_range.1 hk)),List.length_range]
theorem flatV_get:∀ {n:Nat} {f:Nat→List Value},(∀ k,k<n→(f k).length=13)→∀ {i j:Nat},i<n→j<13→(flatV n f)[i * 13+j]?=(f i)[j]?
 | 0,_,_,_,_,hi,_=>by omega
 | n+1,f,h,i,j,hi,hj=>by
   have hl:=flatV_len (n:=n) (f:=f) (fun k hk=>h k (by omega))
   rw [flatV_s]
   rcases Nat.lt_or_ge i n with h1 | h1
   ·rw [List.getElem?_append_left (by omega)]
    exact flatV_get (fun k hk=>h k (by omega)) h1 hj
   ·obtain rfl:i=n:=by omega
    rw [List.getElem?_append_right (by omega),hl]
    congr 1
    omega
def updV (f:Nat→List Value) (i:Nat) (r:List Value):Nat→List Value:=fun k=>if k=i then r else f k
theorem updV_len {n i:Nat} {f:Nat→List Value} {r:List Value} (h:∀ k,k<n→(f k).length=13) (hr:r.length=13):∀ k,k<n→(updV f i r k).length=13:=fun k hk=>by
 unfold updV
 split
 ·exact hr
 ·exact h k hk
theorem flatV_set {n i:Nat} {f:Nat→List Value} {r tl:List Value} (h:∀ k,k<n→(f k).length=13) (hr:r.length=13) (hi:i<n):flatV n (updV f i r)++tl=(flatV n f++tl).take (i * 13)++r++(flatV n f++tl).drop (i * 13+r.length):=by
 have h2:=updV_len (i:=i) h hr
 have l1:=flatV_len h
 have l2:=flatV_len h2
 have hin:i * 13+13≤n * 13:=by have:=Nat.mul_le_mul_right 13 (show i+1≤n by omega);omega
 apply List.ext_getElem?
 intro q
 rw [hr]
 by_cases hq:q<n * 13
 ·have e:q=q / 13 * 13+q % 13:=by omega
  have hq1:q / 13<n:=by omega
  have hq2:q % 13<13:=by omega
  rw [List.getElem?_append_left (by omega)]
  by_cases c1:q<i * 13
  ·rw [List.append_assoc,List.getElem?_append_left (by rw [List.length_take,List.length_append];omega),List.getElem?_take,if_pos c1,List.getElem?_append_left (by omega),e,flatV_get h2 hq1 hq2,flatV_get h hq1 hq2]
   unfold updV
   rw [if_neg (by omega)]
  by_cases c2:q<i * 13+13
  ·rw [List.getElem?_append_left (by rw [List.length_append,List.length_take,List.length_append];omega),List.getElem?_append_right (by rw [List.length_take,List.length_append];omega),e,flatV_get h2 hq1 hq2]
   unfold updV
   rw [if_pos (by omega),List.length_take,List.length_append]
   congr 1
   omega
  ·rw [List.getElem?_append_right (by rw [List.length_append,List.length_take,List.length_append];omega),List.getElem?_drop,List.length_append,List.length_take,List.length_append,hr]
   rw [show i * 13+13+(q-(min (i * 13) ((flatV n f).length+tl.length)+13))=q by omega,List.getElem?_append_left (by omega),e,flatV_get h2 hq1 hq2,flatV_get h hq1 hq2]
   unfold updV
   rw [if_neg (by omega)]
 ·rw [List.getElem?_append_right (by omega),List.getElem?_append_right (by rw [List.length_append,List.length_take,List.length_append];omega),List.getElem?_drop,List.length_append,List.length_take,List.length_append,hr]
  rw [show i * 13+13+(q-(min (i * 13) ((flatV n f).length+tl.length)+13))=q by omega,List.getElem?_append_right (by omega),l1,l2]
structure RowsV (w:World) (b n:Nat) (f:Nat→List Value) (tl:List Value):Prop where
 row:RowT 39 w b (flatV n f++tl)
 len:∀ k,k<n→(f k).length=13
 one:∀ k,k<n→∀ v∈f k,v.oneCell'=true
theorem RowsV.range {w:World} {b n i:Nat} {f:Nat→List Value} {tl:List Value} (h:RowsV w b n f tl) (hi:i<n):w.rangeAt b (i * 13) (f i):=fun j v hv=>by
 have hj:j<13:=by rw [← h.len i hi];exact (List.getElem?_eq_some_iff.1 hv).1
 have hin:i * 13+13≤n * 13:=by have:=Nat.mul_le_mul_right 13 (show i+1≤n by omega);omega
 refine h.row.cell ?_
 rw [List.getElem?_append_left (by rw [flatV_len h.len];omega),flatV_get h.len hi hj,hv]
theorem RowsV.put {w:World} {b n i:Nat} {r:List Value} {f:Nat→List Value} {tl:List Value} (h:RowsV w b n f tl) (hl:r.length=13) (h1:∀ v∈r,v.oneCell'=true):RowsV (w.setRow b (flatV n (updV f i r)++tl).toArray) b n (updV f i r) tl:=by
 refine ⟨h.row.setRow _,updV_len h.len hl,fun k hkn=>?_⟩
 unfold updV
 split
 ·exact h1
 ·exact h.one k hkn
theorem fit13 {n i:Nat} {f:Nat→List Value} {r tl:List Value} (h:∀ k,k<n→(f k).length=13) (hr:r.length=13) (hi:i<n):i * 13+r.length≤(flatV n f++tl).length:=by
 have hin:i * 13+13≤n * 13:=by have:=Nat.mul_le_mul_right 13 (show i+1≤n by omega);omega
 rw [List.length_append,flatV_len h,hr]
 omega
theorem sizeV13 {r:List Value} (h:r.length=13):(Tryz.prog.info? 39).map (·.size)=some r.length:=by rw [h];kernel_rfl
end Go.Proofs.YtniljgkkcnekgaaGreatDoor

/- The order of strings, numbers, times and values as plain functions; the fields of a map in the order of their keys. -/
namespace Go.Proofs.YtniljgkkcnekgaaGreatDoor
open Stb
theorem cmpB_if:∀ (a b:List UInt8),Lib.compareBytes a b=if a<b then -1 else if b<a then 1 else 0
 | [],[]=>by
   rw [if_neg (List.lt_irrefl _),if_neg (List.lt_irrefl _)];rfl
 | [],y::s=>by
   rw [if_pos (List.nil_lt_cons _ _)];rfl
 | x::r,[]=>by
   rw [if_neg (List.not_lt_nil _),if_pos (List.nil_lt_cons _ _)];rfl
 | x::r,y::s=>by
   unfold Lib.compareBytes
   rw [cmpB_if r s]
   simp only [List.cons_lt_cons_iff]
   by_cases h1:x<y
   ·rw [if_pos h1,if_pos (.inl h1)]
   ·by_cases h2:y<x
    ·have h3:¬ (x<y∨x=y∧r<s):=fun h=>h.elim h1 fun ⟨e,_⟩=>by subst e;exact h1 h2
     rw [if_neg h1,if_pos h2,if_neg h3,if_pos (.inl h2)]
    ·have e:x=y:=UInt8.le_antisymm (UInt8.not_lt.1 h2) (UInt8.not_lt.1 h1)
     subst e
     simp only [h1,if_false,false_or,true_and]
theorem list_lt' {a b:List UInt8} (h:¬ a<b) (hn:a≠b):b<a:=by
 by_cases h2:b<a
 ·exact h2
 ·exact absurd (List.le_antisymm (List.not_lt.1 h2) (List.not_lt.1 h)) hn
theorem cmpB_lt (a b:List UInt8):Lib.compareBytes a b<0↔a<b:=by
 rw [cmpB_if]
 by_cases h:a<b
 ·simp [h]
 ·rw [if_neg h]
  constructor
  ·intro h2
   split at h2<;>omega
  ·intro h2
   exact absurd h2 h
section
variable {α:Type}
def insF (x:ByteArray×α):List (ByteArray×α)→List (ByteArray×α)
 | []=>[x]
 | y::r=>if ¬ x.1.data.toList<y.1.data.toList then y::insF x r else x::y::r
def sortF (l:List (ByteArray×α)):List (ByteArray×α):=l.foldl (fun out x=>insF x out) []
theorem insF_perm (x:ByteArray×α):∀ l,List.Perm (insF x l) (x::l)
 | []=>.refl _
 | y::r=>by
   unfold insF
   split
   ·exact ((insF_perm x r).cons y).trans (.swap _ _ _)
   ·exact .refl _
def LeF (x y:ByteArray×α):Prop:=¬ y.1.data.toList<x.1.data.toList
theorem LeF.trans {x y z:ByteArray×α} (h:LeF x y) (k:LeF y z):LeF x z:=by
 unfold LeF at *
 rw [List.not_lt] at *
 exact List.le_trans h k
theorem LeF.total (x y:ByteArray×α):LeF x y∨LeF y x:=by
 unfold LeF
 rw [List.not_lt,List.not_lt]
 exact List.le_total _ _
theorem insF_sorted (x:ByteArray×α):∀ l,l.Pairwise LeF→(insF x l).Pairwise LeF
 | [],_=>List.pairwise_singleton _ _
 | y::r,h=>by
   rw [List.pairwise_cons] at h
   unfold insF
   split
   ·rename_i h1
    refine List.pairwise_cons.2 ⟨fun z hz=>?_,insF_sorted x r h.2⟩
    rcases List.mem_cons.1 ((insF_perm x r).mem_iff.1 hz) with rfl | h2
    ·exact h1
    ·exact h.1 z h2
   ·rename_i h1
    have h2:x.1.data.toList<y.1.data.toList:=Classical.byContradiction h1
    have h3:LeF x y:=fun h4=>List.lt_asymm h2 h4
    refine List.pairwise_cons.2 ⟨fun z hz=>?_,List.pairwise_cons.2 h⟩
    rcases List.mem_cons.1 hz with rfl | hz
    ·exact h3
    ·exact h3.trans (h.1 z hz)
theorem foldF:∀ (l out:List (ByteArray×α)),out.Pairwise LeF→(l.foldl (fun out x=>insF x out) out).Pairwise LeF∧List.Perm (l.foldl (fun out x=>insF x out) out) (out++l)
 | [],out,h=>⟨h,by rw [List.append_nil];exact .refl _⟩
 | x::r,out,h=>by
   obtain ⟨h1,h2⟩:=foldF r (insF x out) (insF_sorted x out h)
   refine ⟨h1,h2.trans ?_⟩
   exact ((insF_perm x out).append_right r).trans (List.perm_middle (l₁:=out) (a:=x) (l₂:=r)).symm
theorem sortF_sorted (l:List (ByteArray×α)):(sortF l).Pairwise LeF:=(foldF l [] List.Pairwise.nil).1
theorem sortF_perm (l:List (ByteArray×α)):List.Perm (sortF l) l:=(foldF l [] List.Pairwise.nil).2
theorem sortF_len (l:List (ByteArray×α)):(sortF l).length=l.length:=(sortF_perm l).length_eq
theorem nodup_eq:∀ {l:List (ByteArray×α)} {a b:ByteArray×α},(l.map (·.1.data.toList)).Nodup→a∈l→b∈l→a.1.data.toList=b.1.data.toList→a=b
 | [],_,_,_,h,_,_=>by cases h
 | x::r,a,b,hd,ha,hb,he=>by
   rw [List.map_cons,List.nodup_cons] at hd
   rcases List.mem_cons.1 ha with ha | ha<;>rcases List.mem_cons.1 hb with hb | hb
   ·rw [ha,hb]
   ·exact absurd (List.mem_map.2 ⟨b,hb,by rw [← he,ha]⟩) hd.1
   ·exact absurd (List.mem_map.2 ⟨a,ha,by rw [he,hb]⟩) hd.1
   ·exact nodup_eq hd.2 ha hb he
theorem sortF_unique {l m:List (ByteArray×α)} (hd:(l.map (·.1.data.toList)).Nodup) (hp:List.Perm m l) (hs:m.Pairwise LeF):m=sortF l:=by
 refine List.Perm.eq_of_pairwise (le:=LeF) (fun a b ha hb h1 h2=>?_) hs (sortF_sorted l) (hp.trans (sortF_perm l).symm)
 exact nodup_eq hd (hp.mem_iff.1 ha) ((sortF_perm l).mem_iff.1 hb) (List.le_antisymm (List.not_lt.1 h1) (List.not_lt.1 h2))
theorem insF_at (x:ByteArray×α):∀ (l:List (ByteArray×α)) (k:Nat),k≤l.length→(∀ j (h:j<l.length),j<k→LeF l[j] x)→(∀ h:k<l.length,¬ LeF l[k] x)→insF x l=l.take k++x::l.drop k
 | [],k,hk,_,_=>by
   obtain rfl:k=0:=by simpa using hk
   rfl
 | y::r,0,_,_,h2=>by
   have h:=h2 (by simp)
   unfold insF
   rw [if_neg (by intro h3;exact h h3)]
   rfl
 | y::r,k+1,hk,h1,h2=>by
   have h:=h1 0 (by simp) (by omega)
   unfold insF
   rw [if_pos (show ¬ x.1.data.toList<y.1.data.toList from h),insF_at x r k (by simpa using hk) (fun j hj hjk=>h1 (j+1) (by simpa using hj) (by omega)) (fun hj=>h2 (by simpa using hj))]
   rfl
theorem sortF_take (l:List (ByteArray×α)) {k:Nat} (h:k<l.length):sortF (l.take (k+1))=insF l[k] (sortF (l.take k)):=by
 unfold sortF
 rw [List.take_add_one,List.foldl_append,List.getElem?_eq_getElem h]
 rfl
end
def cmpS (a b:ByteArray):Int:=if a.data.toList<b.data.toList then -1 else if b.data.toList<a.data.toList then 1 else 0
theorem cmpB_S (a b:ByteArray):Lib.compareBytes a.data.toList b.data.toList=cmpS a b:=cmpB_if _ _
def bI (b:Bool):Int:=if b=true then 1 else 0
def okC:Nat→ValD→Prop
 | 0,_=>False
 | m+1,v=>(0≤v.kind∧v.kind≤7)∧VDec v.num∧(v.kind=3→vtimeB v.time=true)∧(v.text.size≤65536∧v.bytes.length≤65536)∧((keyD v).map (·.data.toList)).Nodup∧(∀ x∈v.list,okC m x)∧∀ x∈v.fields,okC m x.2
theorem keysE_nodup:∀ (l:List ByteArray) (seen:List (List UInt8)),keysE seen l=0→(l.map (·.data.toList)).Nodup∧∀ k∈l,k.data.toList ∉ seen
 | [],_,_=>⟨List.nodup_nil,fun _ h=>by cases h⟩
 | k::r,seen,h=>by
   unfold keysE at h
   split at h
   ·omega
   ·split at h
    ·omega
    ·split at h
     ·omega
     ·rename_i h3
      obtain ⟨h4,h5⟩:=keysE_nodup r _ h
      refine ⟨List.nodup_cons.2 ⟨fun hm=>?_,h4⟩,fun x hx=>?_⟩
      ·obtain ⟨y,hy,e⟩:=List.mem_map.1 hm
       exact h5 y hy (List.mem_append.2 (.inr (List.mem_singleton.2 e)))
      ·rcases List.mem_cons.1 hx with rfl | hx
       ·exact h3
       ·exact fun hs=>h5 x hx (List.mem_append.2 (.inl hs))
theorem kidsL_all {f:ValD→Int→Int×Int} {P:ValD→Prop} (hf:∀ x s,(f x s).2=0→P x):∀ (l:List ValD) (s:Int),(kidsL f l s).2=0→∀ x∈l,P x
 | [],_,_,_,hx=>by cases hx
 | y::r,s,h,x,hx=>by
   unfold kidsL at h
   split at h
   ·rename_i h1
    rcases List.mem_cons.1 hx with rfl | hx
    ·exact hf _ s h1
    ·exact kidsL_all hf r _ h x hx
   ·rename_i h1
    exact absurd h h1
theorem okC_of:∀ (m:Nat) (v:ValD) (s:Int),(lookD m v s).2=0→okC m v
 | 0,_,_,h=>by simp [lookD] at h
 | m+1,v,s,h=>by
   unfold lookD at h
   split at h
   ·simp at h
   ·split at h
    ·rename_i h1
     have h3:∀ x∈kidsD v,okC m x:=kidsL_all (okC_of m) _ _ h
     unfold oneE at h1
     split at h1
     ·omega
     ·rename_i q1
      split at h1
      ·omega
      ·rename_i q2
       split at h1
       ·omega
       ·split at h1
        ·omega
        ·rename_i q4
         have q1':ownB v=true:=by cases hb:ownB v<;>simp_all
         have hk:kidsD v=v.list++v.fields.map (·.2):=own_parts q1'
         rw [hk] at h3
         unfold ownB at q1'
         rw [decide_eq_true_eq] at q1'
         refine ⟨⟨q1'.1,q1'.2.1⟩,(vdecB_iff _).1 (by cases hb:vdecB v.num<;>simp_all),fun h5=>by cases hb:vtimeB v.time<;>simp_all,by omega,(keysE_nodup _ _ h1).1,fun x hx=>h3 x (List.mem_append.2 (.inl hx)),fun x hx=>h3 _ (List.mem_append.2 (.inr (List.mem_map.2 ⟨x,hx,rfl⟩)))⟩
    ·rename_i h1
     exact absurd h h1
end Go.Proofs.YtniljgkkcnekgaaGreatDoor
