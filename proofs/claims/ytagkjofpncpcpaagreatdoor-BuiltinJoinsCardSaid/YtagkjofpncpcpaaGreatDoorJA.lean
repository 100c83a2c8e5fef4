/- A valid text split at a valid one: the parts are valid, and joined again they are the text. No program here. -/
import Derived.Test.YtagkjofpncpcpaaGreatDoorProg
import Derived.Test.YtagkjofpncpcpaaGreatDoorGA
import Derived.Test.YtagkjofpncpcpaaGreatDoorUtf8D
import Derived.Test.YtagkjofpncpcpaaGreatDoorGB
import Derived.Test.YtagkjofpncpcpaaGreatDoorGF
import Derived.Test.YtagkjofpncpcpaaGreatDoorXK
import Derived.Test.YtagkjofpncpcpaaGreatDoorAH
import Derived.Lib.IndexMore
namespace Go.Proofs.YtagkjofpncpcpaaGreatDoor
open Go.RowKit
theorem run_of (s:ByteArray):∀ (f p:Nat),s.size-p≤f→p≤s.size→okFrom s (s.size-p) p=true→Run s p s.size
 | 0,p,h,hp,_=>by
   obtain rfl:p=s.size:=by omega
   exact Run.nil _
 | f+1,p,h,hp,hv=>by
   by_cases he:p=s.size
   ·rw [he];exact Run.nil _
   ·have hlt:p<s.size:=by omega
    by_cases h0:charAt s p=0
    ·rw [okFrom_bad s p hlt h0] at hv;cases hv
    ·rw [okFrom_step s p _ hlt rfl h0] at hv
     obtain ⟨_,h2,_⟩:=charAt_parts h0
     exact Run.cons h0 (run_of s f _ (by omega) h2 hv)
theorem run_all {s:ByteArray} (hv:validS s=true):Run s 0 s.size:=run_of s s.size 0 (by omega) (by omega) hv
theorem Run.at {s:ByteArray} {a b:Nat} (h:Run s a b):∀ {q:Nat},a≤q→q≤b→(q=b∨byteAt s q<128∨192≤byteAt s q)→Run s a q∧Run s q b:=by
 induction h with
 | nil a =>
   intro q h1 h2 _
   obtain rfl:q=a:=by omega
   exact ⟨Run.nil _,Run.nil _⟩
 | @cons a b h0 t ih =>
   intro q h1 h2 hq
   by_cases he:q=a
   ·subst he
    exact ⟨Run.nil _,Run.cons h0 t⟩
   ·obtain ⟨_,_,_,hin⟩:=charAt_parts h0
    have hle:=t.le
    by_cases hlt:q<a+charAt s a
    ·exfalso
     have:=hin (q-a) (by omega) (by omega)
     rw [show a+(q-a)=q by omega] at this
     omega
    ·obtain ⟨r1,r2⟩:=ih (q:=q) (by omega) h2 hq
     exact ⟨Run.cons h0 r1,r2⟩
theorem Run.step {s:ByteArray} {a b:Nat} (h:Run s a b) (hlt:a<b):charAt s a≠0∧Run s (a+charAt s a) b:=by
 cases h with
 | nil=>omega
 | cons g t=>exact ⟨g,t⟩
theorem Run.over {s:ByteArray} {i m:Nat} (him:i+m≤s.size) {q r:Nat} (h:Run (s.extract i (i+m)) q r) (hr:r=m):Run s (i+q) s.size→Run s (i+m) s.size:=by
 have hsz:(s.extract i (i+m)).size=m:=by simp;omega
 induction h with
 | nil a=>subst hr;exact id
 | @cons a b h0 t ih =>
   intro hs
   have hle:=t.le
   obtain ⟨e1,e2,_,_⟩:=charAt_parts h0
   rw [hsz] at e2
   have hq:a<m:=by omega
   have hb:=byteAt_extract s i (i+m) a him (by omega)
   obtain ⟨g0,g⟩:=hs.step (by omega)
   obtain ⟨f1,_,_,_⟩:=charAt_parts g0
   have hc:charAt (s.extract i (i+m)) a=charAt s (i+a):=by rw [e1,f1,hb]
   rw [← hc,Nat.add_assoc] at g
   exact ih hr g
theorem cut_valid {s t:ByteArray} {i:Nat} (hs:validS s=true) (ht:validS t=true) (h1:1≤t.size) (hi:i+t.size≤s.size) (ho:s.extract i (i+t.size)=t):validS (s.extract 0 i)=true∧validS (s.extract (i+t.size) s.size)=true:=by
 have hr:=run_all ht
 have h0:charAt t 0≠0:=by
  generalize hm:t.size=m at hr
  cases hr with
  | nil=>omega
  | cons g _=>exact g
 obtain ⟨_,_,hb,_⟩:=charAt_parts h0
 have hbyte:byteAt t 0=byteAt s i:=by
  have:=byteAt_extract s i (i+t.size) 0 hi (by omega)
  rw [ho] at this
  exact this
 rw [hbyte] at hb
 obtain ⟨r1,r2⟩:=(run_all hs).at (q:=i) (by omega) (by omega) (.inr (by omega))
 refine ⟨Run.validS (by omega) r1,Run.validS (Nat.le_refl _) ?_⟩
 refine Run.over hi (q:=0) (r:=t.size) ?_ rfl r2
 rw [ho]
 exact hr
theorem index_at {s t:ByteArray} {i:Nat} (h:Lib.indexB s t=i):i+t.size≤s.size∧s.extract i (i+t.size)=t:=by
 have hle:i+t.size≤s.size:=by
  rcases Lib.indexB_cases s t with h2 | ⟨j,h2,h3⟩
  ·omega
  ·obtain rfl:j=i:=by omega
   exact h3
 refine ⟨hle,?_⟩
 rcases Lib.index_spec s.data.toList t.data.toList with ⟨h2,_⟩ | ⟨j,h2,_,h4,_⟩
 ·have:Lib.indexB s t=-1:=h2
  omega
 ·have h5:Lib.indexB s t=j:=h2
  obtain rfl:j=i:=by omega
  rw [occ_eq,beq_iff_eq] at h4
  rw [ByteArray.toList_eq,ByteArray.toList_eq] at h4
  apply ByteArray.ext
  exact Array.toList_inj.1 h4
theorem splitA_valid {t:ByteArray} (ht:validS t=true) (h1:1≤t.size):∀ (n:Nat) (s:ByteArray),s.size≤n→validS s=true→∀ x∈splitA t s,validS x=true
 | n,s,hn,hs,x,hx=>by
   rcases Lib.indexB_cases s t with h | ⟨i,h,_⟩
   ·rw [splitA_miss h,List.mem_singleton] at hx
    rw [hx];exact hs
   ·obtain ⟨hi,ho⟩:=index_at h
    obtain ⟨v1,v2⟩:=cut_valid hs ht h1 hi ho
    rw [splitA_hit h1 h] at hx
    rcases List.mem_cons.1 hx with rfl | hx
    ·exact v1
    ·match n,hn with
     | 0,hn=>omega
     | n+1,hn=>exact splitA_valid ht h1 n _ (by rw [ByteArray.size_extract];omega) v2 x hx
def joinT (t:ByteArray) (l:List ByteArray):List UInt8:=Lib.join (l.map (·.data.toList)) t.data.toList
theorem joinT_cons (t x:ByteArray) {l:List ByteArray} (hl:l≠[]):joinT t (x::l)=x.data.toList++t.data.toList++joinT t l:=by
 unfold joinT
 cases l with
 | nil=>exact absurd rfl hl
 | cons y r =>
   rw [List.map_cons,List.map_cons,Lib.join_cons,Lib.join_cons]
   simp [Lib.joinTail]
theorem splitA_some (t s:ByteArray):splitA t s≠[]:=by
 unfold splitA
 rcases Nat.eq_zero_or_pos (Lib.countB s t) with h | h
 ·rw [h,Lib.splitB_zero];simp
 ·obtain ⟨k,hk⟩:∃ k,Lib.countB s t=k+1:=⟨Lib.countB s t-1,by omega⟩
  rw [hk]
  rcases Lib.indexB_cases s t with g | ⟨i,g,_⟩
  ·rw [Lib.splitB_miss _ _ _ _ g];simp
  ·rw [Lib.splitB_hit _ _ _ _ i g];simp
theorem join_split {t:ByteArray} (h1:1≤t.size):∀ (n:Nat) (s:ByteArray),s.size≤n→joinT t (splitA t s)=s.data.toList
 | n,s,hn=>by
   rcases Lib.indexB_cases s t with h | ⟨i,h,_⟩
   ·rw [splitA_miss h]
    exact Lib.join_one _ _
   ·obtain ⟨hi,ho⟩:=index_at h
    rw [splitA_hit h1 h,joinT_cons t _ (splitA_some _ _)]
    match n,hn with
    | 0,hn=>omega
    | n+1,hn =>
      rw [join_split h1 n _ (by rw [ByteArray.size_extract];omega)]
      have e1:=extract_append s (show 0≤i by omega) (show i≤i+t.size by omega)
      rw [ho] at e1
      have e2:=extract_append s (show 0≤i+t.size by omega) hi
      rw [← e1] at e2
      have e3:s.extract 0 s.size=s:=ByteArray.extract_zero_size
      rw [e3] at e2
      have e4:=congrArg (fun b:ByteArray=>b.data.toList) e2
      simpa using e4
end Go.Proofs.YtagkjofpncpcpaaGreatDoor

/- Two valid texts one behind the other are a valid text: no program here. -/
namespace Go.Proofs.YtagkjofpncpcpaaGreatDoor
open Go.RowKit
theorem conts_congr {s t:ByteArray} {p q:Nat} {c:Int}:∀ (k:Nat),(∀ j,1≤j→j≤k→byteAt s (p+j)=byteAt t (q+j))→conts s p c k=conts t q c k
 | 0,_=>rfl
 | k+1,h=>by
   simp only [conts]
   rw [conts_congr k (fun j h1 h2=>h j h1 (by omega)),h (k+1) (by omega) (Nat.le_refl _)]
theorem charAt_congr {s t:ByteArray} {p q:Nat} (h0:charAt t q≠0) (hb:∀ j,j<charAt t q→byteAt s (p+j)=byteAt t (q+j)) (hs:p+charAt t q≤s.size):charAt s p=charAt t q:=by
 obtain ⟨e,hsz,_,_⟩:=charAt_parts h0
 have hn:(lead (byteAt t q)).1≠0:=by rw [← e];exact h0
 have hbyte:byteAt s p=byteAt t q:=by simpa using hb 0 (by omega)
 rw [e] at hb hs hsz
 have hc:=conts_congr (s:=s) (t:=t) (p:=p) (q:=q) (c:=(lead (byteAt t q)).2.2) ((lead (byteAt t q)).1-1) (fun j _ h2=>hb j (by omega))
 unfold charAt
 rw [hbyte,hc,if_neg (show ¬ ((lead (byteAt t q)).1=0∨s.size<p+(lead (byteAt t q)).1) by omega),if_neg (show ¬ ((lead (byteAt t q)).1=0∨t.size<q+(lead (byteAt t q)).1) by omega)]
theorem byteAt_left (s t:ByteArray) {p:Nat} (h:p<s.size):byteAt (s++t) p=byteAt s p:=by
 unfold byteAt
 rw [ByteArray.data_append,Array.toList_append,List.getElem?_append_left (by simpa using h)]
theorem byteAt_right (s t:ByteArray) (p:Nat):byteAt (s++t) (s.size+p)=byteAt t p:=by
 unfold byteAt
 rw [ByteArray.data_append,Array.toList_append,List.getElem?_append_right (by rw [Array.length_toList];exact Nat.le_add_right _ _)]
 rw [Array.length_toList,show s.size+p-s.data.size=p by show s.size+p-s.size=p;omega]
theorem Run.left {s t:ByteArray} {a b:Nat} (h:Run s a b) (hb:b≤s.size):Run (s++t) a b:=by
 induction h with
 | nil=>exact Run.nil _
 | @cons a b h0 r ih =>
   have hle:=r.le
   have e:charAt (s++t) a=charAt s a:=charAt_congr h0 (fun j hj=>byteAt_left s t (by omega)) (by rw [ByteArray.size_append];omega)
   exact Run.cons (by rw [e];exact h0) (by rw [e];exact ih hb)
theorem Run.right {s t:ByteArray} {a b:Nat} (h:Run t a b) (hb:b≤t.size):Run (s++t) (s.size+a) (s.size+b):=by
 induction h with
 | nil=>exact Run.nil _
 | @cons a b h0 r ih =>
   have hle:=r.le
   have e:charAt (s++t) (s.size+a)=charAt t a:=charAt_congr h0 (fun j hj=>by rw [Nat.add_assoc];exact byteAt_right s t _) (by rw [ByteArray.size_append];omega)
   refine Run.cons (by rw [e];exact h0) ?_
   rw [e,Nat.add_assoc]
   exact ih hb
theorem Run.trans {s:ByteArray} {a b c:Nat} (h:Run s a b) (k:Run s b c):Run s a c:=by
 induction h with
 | nil=>exact k
 | cons h0 _ ih=>exact Run.cons h0 (ih k)
theorem cat_valid {s t:ByteArray} (hs:validS s=true) (ht:validS t=true):validS (s++t)=true:=by
 have r1:=(run_all hs).left (t:=t) (Nat.le_refl _)
 have r2:=(run_all ht).right (s:=s) (Nat.le_refl _)
 have r:=r1.trans r2
 rw [← ByteArray.size_append] at r
 have:=Run.validS (Nat.le_refl _) r
 rwa [ByteArray.extract_zero_size] at this
end Go.Proofs.YtagkjofpncpcpaaGreatDoor

/- Valid texts, lists of them: no program here. -/
namespace Go.Proofs.YtagkjofpncpcpaaGreatDoor
open Go.RowKit
theorem d0:decB ⟨false,⟨#[]⟩,0⟩ ⟨false,⟨#[]⟩,0⟩=true:=by simp [decB]
theorem t0:timeB ⟨0,0,0,0⟩ ⟨0,0,0,0⟩=true:=by decide
theorem v0:vdecB ⟨false,⟨#[]⟩,0⟩=true:=by decide
theorem text_one {s:ByteArray} (hv:validS s=true) (hs:s.size≤65536):oneE (textD s)=0:=by
 have h1:ownB (textD s)=true:=by
  unfold ownB
  rw [decide_eq_true_eq]
  refine ⟨show (0:Int)≤4 by decide,show (4:Int)≤7 by decide,fun _=>rfl,fun _=>d0,fun _=>t0,fun h=>absurd rfl h,fun _=>rfl,fun _=>rfl,fun _=>rfl⟩
 have h2:vdecB (textD s).num=true:=v0
 unfold oneE
 rw [if_neg (by rw [h1];decide),if_neg (by rw [h2];rintro (h | ⟨h,_⟩);· cases h
                                           ·cases h),if_neg (by show ¬ validS s=false;rw [hv];decide),if_neg (by show ¬ (65536<s.size∨65536<0);omega)]
 rfl
theorem text_ok {s:ByteArray} (hv:validS s=true) (hs:s.size≤65536):chkD (textD s)=0:=by
 show (if (65536:Int)≤0 then ((0:Int),(10:Int)) else if oneE (textD s)=0 then kidsL (lookD 47) (kidsD (textD s)) (0+1) else (0,oneE (textD s))).2=0
 rw [if_neg (by decide),if_pos (text_one hv hs)]
 rfl
theorem texts_look {m:Nat}:∀ (l:List ByteArray) (k:Int),(∀ x∈l,validS x=true∧x.size≤65536)→k+l.length≤65536→kidsL (lookD (m+1)) (l.map textD) k=(k+l.length,0)
 | [],k,_,_=>by simp [kidsL]
 | x::r,k,h,hk=>by
   obtain ⟨h1,h2⟩:=h x (List.mem_cons_self ..)
   rw [List.length_cons] at hk
   have e:lookD (m+1) (textD x) k=(k+1,0):=by
    show (if (65536:Int)≤k then (k,(10:Int)) else if oneE (textD x)=0 then kidsL (lookD m) (kidsD (textD x)) (k+1) else (k,oneE (textD x)))=_
    rw [if_neg (by omega),if_pos (text_one h1 h2)]
    rfl
   show (if (lookD (m+1) (textD x) k).2=0 then kidsL (lookD (m+1)) (r.map textD) (lookD (m+1) (textD x) k).1 else lookD (m+1) (textD x) k)=_
   rw [e,if_pos rfl,texts_look r (k+1) (fun y hy=>h y (List.mem_cons_of_mem _ hy)) (by omega)]
   rw [List.length_cons]
   congr 1
   omega
theorem texts_ok {l:List ByteArray} (h:∀ x∈l,validS x=true∧x.size≤65536) (hl:l.length≤65535):chkD (lisD (l.map textD))=0:=by
 have h1:oneE (lisD (l.map textD))=0:=by
  have h1:ownB (lisD (l.map textD))=true:=by
   unfold ownB
   rw [decide_eq_true_eq]
   refine ⟨show (0:Int)≤6 by decide,show (6:Int)≤7 by decide,fun _=>rfl,fun _=>d0,fun _=>t0,fun _=>rfl,fun _=>rfl,fun h=>absurd rfl h,fun _=>rfl⟩
  have h2:vdecB (lisD (l.map textD)).num=true:=v0
  have h3:validS (⟨#[]⟩:ByteArray)=true:=by decide
  unfold oneE
  rw [if_neg (by rw [h1];decide),if_neg (by rw [h2];rintro (h | ⟨h,_⟩);· cases h
                                            ·cases h),if_neg (by show ¬ validS ⟨#[]⟩=false;rw [h3];decide),if_neg (by show ¬ (65536<(⟨#[]⟩:ByteArray).size∨65536<0);decide)]
  rfl
 show (if (65536:Int)≤0 then ((0:Int),(10:Int)) else if oneE (lisD (l.map textD))=0 then kidsL (lookD 47) (kidsD (lisD (l.map textD))) (0+1) else (0,oneE (lisD (l.map textD)))).2=0
 rw [if_neg (by decide),if_pos h1]
 show (kidsL (lookD 47) (l.map textD) 1).2=0
 rw [texts_look (m:=46) l 1 h (by omega)]
end Go.Proofs.YtagkjofpncpcpaaGreatDoor
