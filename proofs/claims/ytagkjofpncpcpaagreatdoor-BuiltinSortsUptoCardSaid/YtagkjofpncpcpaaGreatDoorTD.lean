/- The reference's Small (datakitref07), with the number of the values: where it says yes, the value is no deeper than so much and has no more values than so many. -/
import Derived.Test.YtagkjofpncpcpaaGreatDoorProg
import Derived.Test.YtagkjofpncpcpaaGreatDoorGA
import Derived.Test.YtagkjofpncpcpaaGreatDoorGB
import Derived.Test.YtagkjofpncpcpaaGreatDoorUtf8D
import Derived.Test.YtagkjofpncpcpaaGreatDoorGF
import Derived.Test.YtagkjofpncpcpaaGreatDoorSmg07
import Derived.Test.YtagkjofpncpcpaaGreatDoorXA
import Derived.Test.YtagkjofpncpcpaaGreatDoorTA
import Derived.Test.YtagkjofpncpcpaaGreatDoorXK
import Derived.Test.YtagkjofpncpcpaaGreatDoorJnq37
import Derived.Lib.TrimByte
namespace Go.Proofs.YtagkjofpncpcpaaGreatDoor
namespace Stb
end Stb
open Go.RowKit
end Go.Proofs.YtagkjofpncpcpaaGreatDoor

/- The entries of a map, plain: their check finds nothing where that of the map finds nothing and the map is small (for the law BuiltinEntries). -/
namespace Go.Proofs.YtagkjofpncpcpaaGreatDoor
open Go.RowKit
def nodK:Nat→ValD→Nat
 | 0,_=>0
 | m+1,v=>1+((kidsD v).map (nodK m)).sum
def godK:Nat→ValD→Prop
 | 0,_=>False
 | m+1,v=>oneE v=0∧∀ x∈kidsD v,godK m x
theorem godK_of:∀ (m:Nat) (v:ValD) (s:Int),(lookD m v s).2=0→godK m v
 | 0,_,_,h=>by simp [lookD] at h
 | m+1,v,s,h=>by
   unfold lookD at h
   split at h
   ·simp at h
   ·split at h
    ·rename_i h1
     exact ⟨h1,kidsL_all (godK_of m) _ _ h⟩
    ·rename_i h1
     exact absurd h h1
theorem kidsL_sum {f:ValD→Int→Int×Int} {g:ValD→Nat}:∀ (l:List ValD) (s:Int),(∀ x∈l,∀ s:Int,s+g x≤65536→f x s=(s+g x,0))→s+((l.map g).sum:Nat)≤65536→kidsL f l s=(s+((l.map g).sum:Nat),0)
 | [],s,_,_=>by simp [kidsL]
 | x::r,s,h,hs=>by
   rw [List.map_cons,List.sum_cons] at hs ⊢
   have e:=h x (List.mem_cons_self ..) s (by omega)
   unfold kidsL
   rw [e,if_pos rfl,kidsL_sum r _ (fun y hy=>h y (List.mem_cons_of_mem _ hy)) (by show s+(g x:Int)+_≤_;omega)]
   congr 1
   show s+(g x:Int)+_=_
   omega
theorem lis_one (l:List ValD):oneE (lisD l)=0:=by
 have h1:ownB (lisD l)=true:=by
  unfold ownB
  rw [decide_eq_true_eq]
  refine ⟨show (0:Int)≤6 by decide,show (6:Int)≤7 by decide,fun _=>rfl,fun _=>d0,fun _=>t0,fun _=>rfl,fun _=>rfl,fun h=>absurd rfl h,fun _=>rfl⟩
 have h2:vdecB (lisD l).num=true:=v0
 have h3:validS (⟨#[]⟩:ByteArray)=true:=by decide
 unfold oneE
 rw [if_neg (by rw [h1];decide),if_neg (by rw [h2];rintro (h | ⟨h,_⟩);· cases h
                                           ·cases h),if_neg (by show ¬ validS ⟨#[]⟩=false;rw [h3];decide),if_neg (by show ¬ (65536<(⟨#[]⟩:ByteArray).size∨65536<0);decide)]
 rfl
end Go.Proofs.YtagkjofpncpcpaaGreatDoor

/- The elements of a list in another order: their check, their order (plain; for the law BuiltinSorts). -/
namespace Go.Proofs.YtagkjofpncpcpaaGreatDoor
open Go.RowKit Stb
theorem kids_count {f:ValD→Int→Int×Int} {g:ValD→Nat} (hf:∀ x (s:Int),(f x s).2=0→(f x s).1=s+g x∧s+g x≤65536):∀ (l:List ValD) (s:Int),s≤65536→(kidsL f l s).2=0→s+((l.map g).sum:Nat)≤65536
 | [],s,hs,_=>by simpa using hs
 | x::r,s,hs,h=>by
   unfold kidsL at h
   by_cases e:(f x s).2=0
   ·rw [if_pos e] at h
    obtain ⟨h1,h2⟩:=hf x s e
    rw [h1] at h
    have:=kids_count hf r _ h2 h
    rw [List.map_cons,List.sum_cons]
    omega
   ·rw [if_neg e] at h
    exact absurd h e
theorem kids_end {f:ValD→Int→Int×Int} {g:ValD→Nat} (hf:∀ x (s:Int),(f x s).2=0→(f x s).1=s+g x∧s+g x≤65536):∀ (l:List ValD) (s:Int),(kidsL f l s).2=0→(kidsL f l s).1=s+((l.map g).sum:Nat)
 | [],s,_=>by simp [kidsL]
 | x::r,s,h=>by
   unfold kidsL at h ⊢
   by_cases e:(f x s).2=0
   ·rw [if_pos e] at h ⊢
    obtain ⟨h1,h2⟩:=hf x s e
    rw [h1] at h ⊢
    rw [kids_end hf r _ h,List.map_cons,List.sum_cons]
    omega
   ·rw [if_neg e] at h
    exact absurd h e
theorem look_count:∀ (m:Nat) (v:ValD) (s:Int),(lookD m v s).2=0→(lookD m v s).1=s+nodK m v∧s+nodK m v≤65536
 | 0,_,_,h=>by simp [lookD] at h
 | m+1,v,s,h=>by
   have hf:=look_count m
   unfold lookD at h ⊢
   split at h
   ·simp at h
   ·rename_i h0
    split at h
    ·rename_i h1
     rw [if_neg h0,if_pos h1,kids_end hf _ _ h,nodK]
     have:=kids_count hf _ _ (by omega) h
     omega
    ·rename_i h1
     exact absurd h h1
theorem look_same:∀ (m:Nat) (v:ValD) (s:Int),godK m v→s+nodK m v≤65536→lookD m v s=(s+nodK m v,0)
 | 0,_,_,h,_=>h.elim
 | m+1,v,s,hg,hs=>by
   rw [nodK] at hs ⊢
   unfold lookD
   rw [if_neg (by omega),if_pos hg.1,kidsL_sum (g:=nodK m) _ _ (fun x hx s hs=>look_same m x s (hg.2 x hx) hs) (by omega)]
   congr 1
   omega
theorem lis_perm {l l':List ValD} (hp:List.Perm l' l) (h:chkD (lisD l)=0):chkD (lisD l')=0:=by
 have hg:=godK_of 48 _ 0 h
 have hc:=(look_count 48 (lisD l) 0 h).2
 have hk:kidsD (lisD l)=l:=if_neg (show ¬ (6:Int)=7 by decide)
 rw [nodK,hk] at hc
 have hsum:(l'.map (nodK 47)).sum=(l.map (nodK 47)).sum:=(hp.map _).sum_nat
 show (if (65536:Int)≤0 then ((0:Int),(10:Int)) else if oneE (lisD l')=0 then kidsL (lookD 47) l' (0+1) else (0,oneE (lisD l'))).2=0
 rw [if_neg (by decide),if_pos (lis_one l'),kidsL_sum (g:=nodK 47) _ _ (fun x hx s hs=>look_same 47 x s (hg.2 x (by rw [hk];exact hp.mem_iff.1 hx)) hs) (by rw [hsum];omega)]
theorem lis_ok {l:List ValD} (h:chkD (lisD l)=0):∀ x∈l,okC 47 x:=(okC_of 48 (lisD l) 0 h).2.2.2.2.2.1
theorem zero_okC (m:Nat):okC (m+1) zeroD :=
 ⟨⟨show (0:Int)≤0 by decide,show (0:Int)≤7 by decide⟩,.inl ⟨rfl,rfl,rfl⟩,fun h=>absurd h (show ¬ (0:Int)=3 by decide),⟨Nat.zero_le _,Nat.zero_le _⟩,List.nodup_nil,fun x h=>(by cases h),fun x h=>(by cases h)⟩
def atL (l:List ValD) (i:Nat):ValD:=l.getD i zeroD
theorem atL_at {l:List ValD} {i:Nat} (h:i<l.length):atL l i=l[i]:=by unfold atL;simp [List.getD,List.getElem?_eq_getElem h]
theorem atL_ok {l:List ValD} (h:∀ x∈l,okC 47 x) (i:Nat):okC 47 (atL l i):=by
 by_cases c:i<l.length
 ·rw [atL_at c]
  exact h _ (List.getElem_mem c)
 ·have e:atL l i=zeroD:=by unfold atL;simp [List.getD,List.getElem?_eq_none (by omega:l.length≤i)]
  rw [e]
  exact zero_okC 46
def cmpL (l:List ValD) (i j:Nat):Int:=cmpD 47 (atL l i) (atL l j)
theorem tri_L {l:List ValD} (h:∀ x∈l,okC 47 x):TriC (fun _=>True) (cmpL l):=(tri_D 47).on (atL l) fun i _=>atL_ok h i
def ordL (l:List ValD) (g:Nat→Nat):List ValD:=(List.range l.length).map fun k=>atL l (g k)
theorem ordL_len (l:List ValD) (g:Nat→Nat):(ordL l g).length=l.length:=by unfold ordL;rw [List.length_map,List.length_range]
theorem ordL_at {l:List ValD} {g:Nat→Nat} {k:Nat} (h:k<(ordL l g).length):(ordL l g)[k]=atL l (g k):=by simp [ordL]
theorem ordL_atL {l:List ValD} {g:Nat→Nat} {k:Nat} (h:k<l.length):atL (ordL l g) k=atL l (g k):=by rw [atL_at (by rw [ordL_len];exact h),ordL_at]
theorem ordL_id (l:List ValD):(List.range l.length).map (atL l)=l:=by
 apply List.ext_getElem (by simp)
 intro i h1 h2
 rw [List.getElem_map,List.getElem_range]
 exact atL_at h2
theorem ordL_perm {l:List ValD} {g:Nat→Nat} (hp:PermOn 0 l.length id g):List.Perm (ordL l g) l:=by
 have h:=(perm_range hp).map (atL l)
 rw [ordL_id] at h
 unfold ordL
 rw [List.map_map] at h
 exact h
theorem ordL_le {l:List ValD} {g:Nat→Nat} (hs:SortedOn (leT (cmpL l)) g 0 l.length) {i j:Nat} (hij:i<j) (hj:j<l.length):cmpL (ordL l g) i j≤0:=by
 have h:=hs i j (Nat.zero_le _) hij hj
 unfold cmpL
 rw [ordL_atL (by omega),ordL_atL hj]
 unfold leT cmpL at h
 omega
theorem ordL_again {l:List ValD} {g g2:Nat→Nat} (hok:∀ x∈l,okC 47 x) (hp:PermOn 0 l.length id g) (hs:SortedOn (leT (cmpL l)) g 0 l.length) (hp2:PermOn 0 (ordL l g).length id g2) (hs2:SortedOn (leT (cmpL (ordL l g))) g2 0 (ordL l g).length):ordL (ordL l g) g2=ordL l g:=by
 have hok2:∀ x∈ordL l g,okC 47 x:=fun x hx=>hok x ((ordL_perm hp).mem_iff.1 hx)
 apply List.ext_getElem (by rw [ordL_len])
 intro i h1 h2
 rw [ordL_at,sorted_id (tri_L hok2) hp2 hs2 (fun a b hab hb=>ordL_le hs hab (by rw [ordL_len] at hb;exact hb)) h2,atL_at h2]
end Go.Proofs.YtagkjofpncpcpaaGreatDoor
