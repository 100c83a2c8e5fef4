/- What a stable sort does, on functions from places to things: other orders of a range, sorted ranges, rotations, the merge by a cut (plain: no program here). -/
import Derived.Test.YtagkjofpncpcpaaGreatDoorGA
namespace Go.Proofs.YtagkjofpncpcpaaGreatDoor
namespace Stb
section
variable {α:Type}
def PermOn (a b:Nat) (f g:Nat→α):Prop:=∃ s t:Nat→Nat,(∀ k,a≤k→k<b→(a≤s k∧s k<b)∧a≤t k∧t k<b)∧(∀ k,t (s k)=k∧s (t k)=k)∧(∀ k,¬ (a≤k∧k<b)→s k=k∧t k=k)∧∀ k,g k=f (s k)
theorem PermOn.refl (a b:Nat) (f:Nat→α):PermOn a b f f:=⟨id,id,fun _ h1 h2=>⟨⟨h1,h2⟩,h1,h2⟩,fun _=>⟨rfl,rfl⟩,fun _ _=>⟨rfl,rfl⟩,fun _=>rfl⟩
theorem PermOn.trans {a b:Nat} {f g h:Nat→α} (x:PermOn a b f g) (y:PermOn a b g h):PermOn a b f h:=by
 obtain ⟨s,t,h1,h2,h3,h4⟩:=x
 obtain ⟨u,v,k1,k2,k3,k4⟩:=y
 refine ⟨fun k=>s (u k),fun k=>v (t k),fun k ha hb=>?_,fun k=>?_,fun k hk=>?_,fun k=>by rw [k4,h4]⟩
 ·obtain ⟨⟨p1,p2⟩,_,_⟩:=k1 k ha hb
  obtain ⟨_,q1,q2⟩:=h1 k ha hb
  exact ⟨(h1 _ p1 p2).1,(k1 _ q1 q2).2⟩
 ·exact ⟨by show v (t (s (u k)))=k;rw [(h2 _).1,(k2 _).1],by show s (u (v (t k)))=k;rw [(k2 _).2,(h2 _).2]⟩
 ·show s (u k)=k∧v (t k)=k
  rw [(k3 k hk).1,(h3 k hk).1,(h3 k hk).2,(k3 k hk).2]
  exact ⟨rfl,rfl⟩
theorem PermOn.wide {a b a' b':Nat} {f g:Nat→α} (x:PermOn a b f g) (ha:a'≤a) (hb:b≤b'):PermOn a' b' f g:=by
 obtain ⟨s,t,h1,h2,h3,h4⟩:=x
 refine ⟨s,t,fun k h5 h6=>?_,h2,fun k hk=>h3 k (by omega),h4⟩
 by_cases h:a≤k∧k<b
 ·obtain ⟨⟨p1,p2⟩,q1,q2⟩:=h1 k h.1 h.2
  omega
 ·rw [(h3 k h).1,(h3 k h).2]
  exact ⟨⟨h5,h6⟩,h5,h6⟩
theorem PermOn.out {a b:Nat} {f g:Nat→α} (x:PermOn a b f g) {k:Nat} (hk:¬ (a≤k∧k<b)):g k=f k:=by
 obtain ⟨s,t,_,_,h3,h4⟩:=x
 rw [h4,(h3 k hk).1]
theorem PermOn.mem {a b:Nat} {f g:Nat→α} (x:PermOn a b f g) {k:Nat} (ha:a≤k) (hb:k<b):∃ j,a≤j∧j<b∧g k=f j:=by
 obtain ⟨s,t,h1,_,_,h4⟩:=x
 exact ⟨s k,(h1 k ha hb).1.1,(h1 k ha hb).1.2,h4 k⟩
def swap (f:Nat→α) (i j:Nat):Nat→α:=fun k=>if k=i then f j else if k=j then f i else f k
def swapB (f:Nat→α) (a b n:Nat):Nat→α:=fun k=>if a≤k∧k<a+n then f (k+(b-a)) else if b≤k∧k<b+n then f (k-(b-a)) else f k
def rot (f:Nat→α) (a m b:Nat):Nat→α:=fun k=>if a≤k∧k<a+(b-m) then f (k+(m-a)) else if a+(b-m)≤k∧k<b then f (k-(b-m)) else f k
theorem swapB_0 (f:Nat→α) (a b:Nat):swapB f a b 0=f:=by
 funext k
 unfold swapB
 rw [if_neg (by omega),if_neg (by omega)]
theorem swapB_s (f:Nat→α) {a b n:Nat} (h:a+n<b):swapB f a b (n+1)=swap (swapB f a b n) (a+n) (b+n):=by
 funext k
 unfold swap swapB
 repeat' split
 all_goals first | (exfalso;omega) | (congr 1;omega) | rfl
theorem rot_gt (g:Nat→α) {m i j:Nat} (h:j<i) (hi:i≤m):rot g (m-i) m (m+j)=rot (swapB g (m-i) m j) (m-(i-j)) m (m+j):=by
 funext k
 unfold rot swapB
 repeat' split
 all_goals first | (exfalso;omega) | (congr 1;omega) | rfl
theorem rot_lt (g:Nat→α) {m i j:Nat} (h:i<j) (hi:i≤m):rot g (m-i) m (m+j)=rot (swapB g (m-i) (m+j-i) i) (m-i) m (m+(j-i)):=by
 funext k
 unfold rot swapB
 repeat' split
 all_goals first | (exfalso;omega) | (congr 1;omega) | rfl
theorem rot_eq (g:Nat→α) {m i:Nat} (hi:i≤m):rot g (m-i) m (m+i)=swapB g (m-i) m i:=by
 funext k
 unfold rot swapB
 repeat' split
 all_goals first | (exfalso;omega) | (congr 1;omega) | rfl
theorem rot_no {f:Nat→α} {a m b:Nat} (h:a=m∨m=b) (h2:a≤m) (h3:m≤b):rot f a m b=f:=by
 funext k
 unfold rot
 repeat' split
 all_goals first | (exfalso;omega) | (congr 1;omega) | rfl
theorem perm_rot (f:Nat→α) {a m b:Nat} (h1:a≤m) (h2:m≤b):PermOn a b f (rot f a m b):=by
 refine ⟨fun k=>if a≤k∧k<a+(b-m) then k+(m-a) else if a+(b-m)≤k∧k<b then k-(b-m) else k,fun k=>if a≤k∧k<m then k+(b-m) else if m≤k∧k<b then k-(m-a) else k,fun k ha hb=>?_,fun k=>?_,fun k hk=>?_,fun k=>?_⟩
 ·constructor
  ·simp only
   repeat' split
   all_goals omega
  ·simp only
   repeat' split
   all_goals omega
 ·constructor
  ·simp only
   repeat' split
   all_goals omega
  ·simp only
   repeat' split
   all_goals omega
 ·simp only
  constructor
  ·rw [if_neg (by omega),if_neg (by omega)]
  ·rw [if_neg (by omega),if_neg (by omega)]
 ·unfold rot
  simp only
  repeat' split
  all_goals rfl
structure Ord (le:α→α→Prop):Prop where
 trans:∀ x y z,le x y→le y z→le x z
 total:∀ x y,le x y∨le y x
def SortedOn (le:α→α→Prop) (f:Nat→α) (a b:Nat):Prop:=∀ i j,a≤i→i<j→j<b→le (f i) (f j)
theorem Ord.refl {le:α→α→Prop} (O:Ord le) (x:α):le x x:=(O.total x x).elim id id
theorem SortedOn.le {le:α→α→Prop} (O:Ord le) {f:Nat→α} {a b i j:Nat} (h:SortedOn le f a b) (h1:a≤i) (h2:i≤j) (h3:j<b):le (f i) (f j):=by
 rcases Nat.lt_or_eq_of_le h2 with h4 | rfl
 ·exact h i j h1 h4 h3
 ·exact O.refl _
theorem SortedOn.part {le:α→α→Prop} {f:Nat→α} {a b a' b':Nat} (h:SortedOn le f a b) (h1:a≤a') (h2:b'≤b):SortedOn le f a' b':=fun i j hi hj hk=>h i j (by omega) hj (by omega)
theorem SortedOn.of_eq {le:α→α→Prop} {f g:Nat→α} {a b:Nat} (h:SortedOn le f a b) (he:∀ k,a≤k→k<b→g k=f k):SortedOn le g a b:=fun i j hi hj hk=>by
 rw [he i hi (by omega),he j (by omega) hk]
 exact h i j hi hj hk
theorem sorted_one {le:α→α→Prop} {f:Nat→α} {a b:Nat} (h:b≤a+1):SortedOn le f a b:=fun i j hi hj hk=>by omega
theorem SortedOn.shift {le:α→α→Prop} {f g:Nat→α} {a b c d:Nat} (h:SortedOn le f a b) (x y:Nat) (he:∀ k,c≤k→k<d→a≤k+x-y∧k+x-y<b∧g k=f (k+x-y)) (hxy:∀ k,c≤k→y≤k+x):SortedOn le g c d:=fun i j hi hj hk=>by
 obtain ⟨p1,p2,p3⟩:=he i hi (by omega)
 obtain ⟨q1,q2,q3⟩:=he j (by omega) hk
 rw [p3,q3]
 exact h _ _ p1 (by have:=hxy i hi;omega) q2
structure Cut (le:α→α→Prop) (f:Nat→α) (a m b start en:Nat):Prop where
 a_s:a≤start
 s_m:start≤m
 m_e:m≤en
 e_b:en≤b
 low:∀ x y,((a≤x∧x<start)∨(m≤x∧x<en))→((start≤y∧y<m)∨(en≤y∧y<b))→le (f x) (f y)
theorem cut_of {le:α→α→Prop} (O:Ord le) {f:Nat→α} {a m b s0 r0 start:Nat} (h1:a<m) (h2:m<b) (S1:SortedOn le f a m) (S2:SortedOn le f m b)
 (hs:s0=if (a+b) / 2<m then (a+b) / 2+m-b else a) (hr:r0=if (a+b) / 2<m then (a+b) / 2 else m) (hs1:s0≤start) (hs2:start≤r0)
 (hlo:∀ c,s0≤c→c<start→le (f c) (f ((a+b) / 2+m-1-c))) (hhi:∀ c,start≤c→c<r0→¬ le (f c) (f ((a+b) / 2+m-1-c))):Cut le f a m b start ((a+b) / 2+m-start):=by
 obtain ⟨mid,hmid⟩:∃ mid,(a+b) / 2=mid:=⟨_,rfl⟩
 have hm1:a+b≤2 * mid+1:=by omega
 have hm2:2 * mid≤a+b:=by omega
 rw [hmid] at hs hr hlo hhi ⊢
 have hb:a≤s0∧r0≤m∧mid+m-s0≤b∧m≤mid+m-r0:=by
  rw [hs,hr]
  split
  ·omega
  ·omega
 obtain ⟨b1,b2,b3,b4⟩:=hb
 refine ⟨by omega,by omega,by omega,by omega,fun x y hx hy=>?_⟩
 rcases hx with ⟨x1,x2⟩ | ⟨x1,x2⟩<;>rcases hy with ⟨y1,y2⟩ | ⟨y1,y2⟩
 ·exact S1 x y x1 (by omega) y2
 ·by_cases hc:s0<start
  ·have h:=hlo (start-1) (by omega) (by omega)
   rw [show mid+m-1-(start-1)=mid+m-start by omega] at h
   exact O.trans _ _ _ (S1.le O x1 (by omega) (by omega)) (O.trans _ _ _ h (S2.le O (by omega) y1 y2))
  ·exfalso
   rw [hs] at hc hs1
   split at hc
   ·omega
   ·omega
 ·by_cases hc:start<r0
  ·have h:=(O.total (f start) (f (mid+m-1-start))).resolve_left (hhi start (Nat.le_refl _) hc)
   exact O.trans _ _ _ (S2.le O x1 (by omega) (by omega)) (O.trans _ _ _ h (S1.le O (by omega) y1 y2))
  ·exfalso
   rw [hr] at hc hs2
   split at hc
   ·omega
   ·omega
 ·exact S2 x y x1 (by omega) y2
theorem Cut.parts {le:α→α→Prop} {f:Nat→α} {a m b start en:Nat} (C:Cut le f a m b start en) (S1:SortedOn le f a m) (S2:SortedOn le f m b) :
 SortedOn le (rot f start m en) a start∧SortedOn le (rot f start m en) start (start+(en-m))∧SortedOn le (rot f start m en) (start+(en-m)) en∧SortedOn le (rot f start m en) en b:=by
 obtain ⟨c1,c2,c3,c4,_⟩:=C
 refine ⟨(S1.part (Nat.le_refl _) c2).of_eq fun k h1 h2=>?_,S2.shift (m-start) 0 (fun k h1 h2=>⟨by omega,by omega,?_⟩) (fun _ _=>by omega),S1.shift 0 (en-m) (fun k h1 h2=>⟨by omega,by omega,?_⟩) (fun _ _=>by omega),(S2.part c3 (Nat.le_refl _)).of_eq fun k h1 h2=>?_⟩
 ·unfold rot
  rw [if_neg (by omega),if_neg (by omega)]
 ·unfold rot
  rw [if_pos (by omega)]
  congr 1
 ·unfold rot
  rw [if_neg (by omega),if_pos (by omega)]
  congr 1
 ·unfold rot
  rw [if_neg (by omega),if_neg (by omega)]
theorem Cut.merge {le:α→α→Prop} {f g1 g:Nat→α} {a m b start en mid:Nat} (C:Cut le f a m b start en) (hm:mid=start+(en-m)) (P1:PermOn a mid (rot f start m en) g1) (S1:SortedOn le g1 a mid) (P2:PermOn mid b g1 g) (S2:SortedOn le g mid b):PermOn a b f g∧SortedOn le g a b:=by
 obtain ⟨c1,c2,c3,c4,hl⟩:=C
 refine ⟨((perm_rot f c2 c3).wide c1 c4).trans ((P1.wide (Nat.le_refl _) (by omega)).trans (P2.wide (by omega) (Nat.le_refl _))),fun i j hi hij hj=>?_⟩
 by_cases h1:j<mid
 ·rw [P2.out (by omega),P2.out (by omega)]
  exact S1 i j hi hij h1
 by_cases h2:mid≤i
 ·exact S2 i j h2 hij hj
 rw [P2.out (by omega:¬ (mid≤i∧i<b))]
 obtain ⟨x,x1,x2,x3⟩:=P1.mem hi (by omega:i<mid)
 obtain ⟨y,y1,y2,y3⟩:=P2.mem (by omega:mid≤j) hj
 rw [x3,y3,P1.out (by omega)]
 unfold rot
 by_cases h3:x<start
 ·rw [if_neg (by omega),if_neg (by omega)]
  by_cases h4:y<en
  ·rw [if_neg (by omega),if_pos (by omega)]
   exact hl _ _ (.inl ⟨x1,h3⟩) (.inl ⟨by omega,by omega⟩)
  ·rw [if_neg (by omega),if_neg (by omega)]
   exact hl _ _ (.inl ⟨x1,h3⟩) (.inr ⟨by omega,y2⟩)
 ·rw [if_pos (by omega)]
  by_cases h4:y<en
  ·rw [if_neg (by omega),if_pos (by omega)]
   exact hl _ _ (.inr ⟨by omega,by omega⟩) (.inl ⟨by omega,by omega⟩)
  ·rw [if_neg (by omega),if_neg (by omega)]
   exact hl _ _ (.inr ⟨by omega,by omega⟩) (.inr ⟨by omega,y2⟩)
def up1 (f:Nat→α) (a i:Nat):Nat→α:=fun k=>if a≤k∧k+1<i then f (k+1) else if a≤k∧k+1=i then f a else f k
def dn1 (f:Nat→α) (i m:Nat):Nat→α:=fun k=>if k=i∧i≤m then f m else if i<k∧k≤m then f (k-1) else f k
theorem up1_rot (f:Nat→α) {a i:Nat} (h:a<i):up1 f a i=rot f a (a+1) i:=by
 funext k
 unfold up1 rot
 repeat' split
 all_goals first | (exfalso;omega) | (congr 1;omega) | rfl
theorem dn1_rot (f:Nat→α) {i m:Nat} (h:i≤m):dn1 f i m=rot f i m (m+1):=by
 funext k
 unfold dn1 rot
 repeat' split
 all_goals first | (exfalso;omega) | (congr 1;omega) | rfl
theorem up1_0 (f:Nat→α) (a:Nat):up1 f a (a+1)=f:=by
 funext k
 unfold up1
 repeat' split
 all_goals first | (exfalso;omega) | (congr 1;omega) | rfl
theorem up1_s (f:Nat→α) {a k:Nat} (h:a≤k):up1 f a (k+2)=swap (up1 f a (k+1)) k (k+1):=by
 funext j
 unfold swap up1
 repeat' split
 all_goals first | (exfalso;omega) | (congr 1;omega) | rfl
theorem dn1_0 (f:Nat→α) (m:Nat):dn1 f m m=f:=by
 funext k
 unfold dn1
 repeat' split
 all_goals first | (exfalso;omega) | (congr 1;omega) | rfl
theorem dn1_s (f:Nat→α) {i m:Nat} (h:i<m):dn1 f i m=swap (dn1 f (i+1) m) (i+1) i:=by
 funext j
 unfold swap dn1
 repeat' split
 all_goals first | (exfalso;omega) | (congr 1;omega) | rfl
theorem up1_sorted {le:α→α→Prop} (O:Ord le) {f:Nat→α} {a i b:Nat} (h1:a<i) (h2:i≤b) (S:SortedOn le f (a+1) b) (hlo:∀ h,a+1≤h→h<i→¬ le (f a) (f h)) (hhi:∀ h,i≤h→h<b→le (f a) (f h)):PermOn a b f (up1 f a i)∧SortedOn le (up1 f a i) a b:=by
 refine ⟨by rw [up1_rot f h1];exact (perm_rot f (by omega) (by omega)).wide (Nat.le_refl _) h2,fun x y hx hxy hy=>?_⟩
 unfold up1
 by_cases c1:y+1<i
 ·rw [if_pos (by omega),if_pos (by omega)]
  exact S _ _ (by omega) (by omega) (by omega)
 by_cases c2:y+1=i
 ·rw [if_pos (by omega),if_neg (by omega),if_pos (by omega)]
  exact (O.total _ _).resolve_left (hlo _ (by omega) (by omega))
 rw [if_neg (by omega:¬ (a≤y∧y+1<i)),if_neg (by omega:¬ (a≤y∧y+1=i))]
 by_cases c3:x+1<i
 ·rw [if_pos (by omega)]
  exact S _ _ (by omega) (by omega) hy
 by_cases c4:x+1=i
 ·rw [if_neg (by omega),if_pos (by omega)]
  exact hhi _ (by omega) hy
 ·rw [if_neg (by omega),if_neg (by omega)]
  exact S _ _ (by omega) hxy hy
theorem dn1_sorted {le:α→α→Prop} (O:Ord le) {f:Nat→α} {a i m:Nat} (h1:a≤i) (h2:i≤m) (S:SortedOn le f a m) (hlo:∀ h,a≤h→h<i→le (f h) (f m)) (hhi:∀ h,i≤h→h<m→¬ le (f h) (f m)):PermOn a (m+1) f (dn1 f i m)∧SortedOn le (dn1 f i m) a (m+1):=by
 refine ⟨by rw [dn1_rot f h2];exact (perm_rot f h2 (by omega)).wide h1 (Nat.le_refl _),fun x y hx hxy hy=>?_⟩
 unfold dn1
 by_cases c1:y<i
 ·rw [if_neg (by omega),if_neg (by omega),if_neg (by omega),if_neg (by omega)]
  exact S _ _ hx hxy (by omega)
 by_cases c2:y=i
 ·rw [if_neg (by omega),if_neg (by omega),if_pos (by omega)]
  exact hlo _ hx (by omega)
 rw [if_neg (by omega:¬ (y=i∧i≤m)),if_pos (by omega:i<y∧y≤m)]
 by_cases c3:x<i
 ·rw [if_neg (by omega),if_neg (by omega)]
  exact S _ _ hx (by omega) (by omega)
 by_cases c4:x=i
 ·rw [if_pos (by omega)]
  exact (O.total _ _).resolve_left (hhi _ (by omega) (by omega))
 ·rw [if_neg (by omega),if_pos (by omega)]
  exact S _ _ (by omega) (by omega) (by omega)
end
section
variable {α:Type}
theorem PermOn.keep {le:α→α→Prop} {f g:Nat→α} {a b x y:Nat} (P:PermOn a b f g) (S:SortedOn le f x y) (h:y≤a∨b≤x):SortedOn le g x y:=S.of_eq fun k h1 h2=>P.out (by omega)
def Runs0 (le:α→α→Prop) (f:Nat→α) (s p:Nat):Prop:=∀ q,q<p→SortedOn le f (q * s) (q * s+s)
def Runs (le:α→α→Prop) (f:Nat→α) (s n p:Nat):Prop:=∀ q,p≤q→q * s<n→SortedOn le f (q * s) (min (q * s+s) n)
theorem mul_lt_s {q p s:Nat} (h:q<p):q * s+s≤p * s:=by
 have:=Nat.mul_le_mul_right s (show q+1≤p by omega)
 rw [Nat.add_mul,Nat.one_mul] at this
 exact this
theorem Runs0.nil (le:α→α→Prop) (f:Nat→α) (s:Nat):Runs0 le f s 0:=fun q h=>by omega
theorem Runs0.step {le:α→α→Prop} {f g:Nat→α} {s p:Nat} (R:Runs0 le f s p) (P:PermOn (p * s) (p * s+s) f g) (S:SortedOn le g (p * s) (p * s+s)):Runs0 le g s (p+1):=fun q h=>by
 by_cases hq:q<p
 ·exact P.keep (R q hq) (.inl (mul_lt_s hq))
 ·obtain rfl:q=p:=by omega
  exact S
theorem Runs0.last {le:α→α→Prop} {f g:Nat→α} {s p n:Nat} (R:Runs0 le f s p) (h0:p * s≤n) (hn:n<p * s+s) (P:PermOn (p * s) n f g) (S:SortedOn le g (p * s) n):Runs le g s n 0:=fun q _ h=>by
 by_cases hq:q<p
 ·have:=mul_lt_s (s:=s) hq
  rw [Nat.min_eq_left (by omega)]
  exact P.keep (R q hq) (.inl this)
 ·by_cases hq2:q=p
  ·subst hq2
   rw [Nat.min_eq_right (by omega)]
   exact S
  ·have:=mul_lt_s (s:=s) (show p<q by omega)
   omega
theorem two_mul_s (q s:Nat):q * (2 * s)=2 * q * s:=by rw [Nat.mul_comm 2 q,Nat.mul_assoc]
theorem Runs.step {le:α→α→Prop} {f g:Nat→α} {s p n:Nat} (R:Runs le f s n (2 * p)) (P:PermOn (p * (2 * s)) (p * (2 * s)+2 * s) f g):Runs le g s n (2 * (p+1)):=fun q h1 h2=>by
 refine P.keep (R q (by omega) h2) (.inr ?_)
 have:=Nat.mul_le_mul_right s h1
 rw [two_mul_s]
 rw [show 2 * (p+1) * s=2 * p * s+2 * s by rw [← Nat.add_mul];rfl] at this
 omega
theorem Runs.last {le:α→α→Prop} {f:Nat→α} {s p n:Nat} (R:Runs le f s n (2 * p)) (R0:Runs0 le f (2 * s) p) (hn:n<p * (2 * s)+2 * s) (h:n≤p * (2 * s)+s):Runs le f (2 * s) n 0:=fun q _ h2=>by
 by_cases hq:q<p
 ·have:=mul_lt_s (s:=2 * s) hq
  by_cases hn2:q * (2 * s)+2 * s≤n
  ·rw [Nat.min_eq_left hn2]
   exact R0 q hq
  ·exact (R0 q hq).part (Nat.le_refl _) (Nat.min_le_left _ _)
 ·by_cases hq2:q=p
  ·subst hq2
   have:=R (2 * q) (Nat.le_refl _) (by rw [← two_mul_s];exact h2)
   rw [← two_mul_s] at this
   rw [Nat.min_eq_right (by omega)] at this ⊢
   exact this
  ·have:=mul_lt_s (s:=2 * s) (show p<q by omega)
   omega
theorem Runs.all {le:α→α→Prop} {f:Nat→α} {s n:Nat} (R:Runs le f s n 0) (h:n≤s):SortedOn le f 0 n:=by
 by_cases h0:n=0
 ·subst h0
  exact fun i j _ _ h3=>by omega
 ·have:=R 0 (Nat.le_refl _) (by omega)
  rw [Nat.zero_mul,Nat.zero_add,Nat.min_eq_right h] at this
  exact this
theorem Runs.left {le:α→α→Prop} {f:Nat→α} {s p n:Nat} (R:Runs le f s n (2 * p)) (h:p * (2 * s)+s<n):SortedOn le f (p * (2 * s)) (p * (2 * s)+s):=by
 have:=R (2 * p) (Nat.le_refl _) (by rw [← two_mul_s];omega)
 rw [← two_mul_s,Nat.min_eq_left (by omega)] at this
 exact this
theorem Runs.right {le:α→α→Prop} {f:Nat→α} {s p n b:Nat} (R:Runs le f s n (2 * p)) (h:p * (2 * s)+s<n) (hb:b=min (p * (2 * s)+2 * s) n):SortedOn le f (p * (2 * s)+s) b:=by
 have e:(2 * p+1) * s=p * (2 * s)+s:=by rw [Nat.add_mul,Nat.one_mul,two_mul_s]
 have:=R (2 * p+1) (by omega) (by rw [e];exact h)
 rw [e] at this
 rw [hb,show p * (2 * s)+2 * s=p * (2 * s)+s+s by omega]
 exact this
end
end Stb
end Go.Proofs.YtagkjofpncpcpaaGreatDoor
