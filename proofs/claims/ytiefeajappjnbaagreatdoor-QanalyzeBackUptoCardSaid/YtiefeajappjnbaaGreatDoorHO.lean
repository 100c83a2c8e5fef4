/- The number of nodes of an expression that the check accepts: a plain function and its laws. No program here. -/
import Derived.Test.YtiefeajappjnbaaGreatDoorGG
import Derived.Test.YtiefeajappjnbaaGreatDoorGW
namespace Go.Proofs.YtiefeajappjnbaaGreatDoor
open Go.RowKit
def ndE:Nat→ag→Nat
 | 0,_=>1
 | m+1,e=>1+(e.funcs.map fun f=>ndE m f.body).sum+(e.args.map (ndE m)).sum
def dpE:Nat→ag→Prop
 | 0,e=>e.args=[]∧e.funcs=[]
 | m+1,e=>(∀ a∈e.args,dpE m a)∧∀ f∈e.funcs,dpE m f.body
def Bn (m:Nat) (l:List ag) (k:Nat):Nat:=((l.take k).map (ndE m)).sum
def Bm (m:Nat) (l:List al) (k:Nat):Nat:=((l.take k).map fun f=>ndE m f.body).sum
theorem vL (m:Nat) (l:List ag):Bn m l l.length=(l.map (ndE m)).sum:=by unfold Bn;rw [List.take_length]
theorem vK (m:Nat) (l:List al):Bm m l l.length=(l.map fun f=>ndE m f.body).sum:=by unfold Bm;rw [List.take_length]
theorem wz (m:Nat) (e:ag):ndE (m+1) e=1+Bm m e.funcs e.funcs.length+Bn m e.args e.args.length:=by rw [vL,vK];rfl
theorem jO (m:Nat) {e:ag} (ha:e.args=[]) (hf:e.funcs=[]):ndE m e=1:=by
 cases m with
 | zero=>rfl
 | succ m=>rw [wz,ha,hf];rfl
theorem x9 (m:Nat) {e:ag} (ha:e.args=[]) (hf:e.funcs=[]):dpE m e:=by
 cases m with
 | zero=>exact ⟨ha,hf⟩
 | succ m=>exact ⟨by rw [ha];simp,by rw [hf];simp⟩
theorem fe (idB:ByteArray→Bool) (f:ag→Int→Int×Int) (Q:ag→Prop) (g:ag→Nat) (hf:∀ x s y,f x s=(y,0)→Q x∧y=s+g x) :
 ∀ (l:List al) (seen:List ByteArray) (s y:Int),cF idB f seen l s=(y,0)→(∀ u∈l,Q u.body)∧y=s+((l.map fun u=>g u.body).sum:Nat)
 | [],seen,s,y,h=>by
   simp only [cF,Prod.mk.injEq] at h
   refine ⟨by simp,?_⟩
   simp
   omega
 | x::r,seen,s,y,h=>by
   simp only [cF] at h
   split at h
   ·rename_i hh
    rw [Prod.mk.injEq] at h
    exact absurd h.2 hh
   ·split at h
    ·rename_i h1 hh
     rw [h] at hh
     exact absurd rfl hh
    ·rename_i h1 h2
     have h3:(f x.body s).2=0:=by simpa using h2
     obtain ⟨q1,q2⟩:=hf x.body s (f x.body s).1 (by rw [← h3])
     obtain ⟨i1,i2⟩:=fe idB f Q g hf r _ _ _ h
     refine ⟨fun u hu=>?_,?_⟩
     ·rcases List.mem_cons.1 hu with rfl | hu
      ·exact q1
      ·exact i1 u hu
     ·rw [List.map_cons,List.sum_cons,i2,q2];omega
theorem eY (m:Nat) (f:ag→Int→Int×Int) (Q:ag→Prop) (g:ag→Nat) (hf:∀ x s y,f x s=(y,0)→Q x∧y=s+g x) :
 ∀ (l:List ag) (s y:Int),(∀ u∈l,u.op=30→m≠0→Q u∧g u=1)→hZ m f l s=(y,0)→(∀ u∈l,Q u)∧y=s+((l.map g).sum:Nat)
 | [],s,y,_,h=>by
   simp only [hZ,Prod.mk.injEq] at h
   refine ⟨by simp,?_⟩
   simp
   omega
 | x::r,s,y,ha,h=>by
   simp only [hZ] at h
   split at h
   ·rename_i hh
    rw [h] at hh
    exact absurd rfl hh
   ·rename_i h2
    have h3:(gN m f x s).2=0:=by simpa using h2
    obtain ⟨i1,i2⟩:=eY m f Q g hf r _ _ (fun u hu=>ha u (List.mem_cons_of_mem _ hu)) h
    have hq:Q x∧(gN m f x s).1=s+g x:=by
     unfold gN at h3 ⊢
     split at h3
     ·rename_i ho
      rw [if_pos ho]
      split at h3
      ·exact absurd (show (9:Int)=0 from h3) (by decide)
      ·rename_i hm
       rw [if_neg hm]
       split at h3
       ·exact absurd (show (10:Int)=0 from h3) (by decide)
       ·rename_i hs
        rw [if_neg hs]
        obtain ⟨a1,a2⟩:=ha x (List.mem_cons_self ..) ho hm
        exact ⟨a1,by rw [a2];rfl⟩
     ·rename_i ho
      rw [if_neg ho]
      exact hf x s (f x s).1 (by rw [← h3])
    refine ⟨fun u hu=>?_,?_⟩
    ·rcases List.mem_cons.1 hu with rfl | hu
     ·exact hq.1
     ·exact i1 u hu
    ·rw [List.map_cons,List.sum_cons,i2,hq.2];omega
mutual
def cc:ag→Prop
 | .mk _ _ _ l fs=>l.length≤65536∧nZ l∧gY fs
def nZ:List ag→Prop
 | []=>True
 | a::r=>cc a∧nZ r
def Bq:al→Prop
 | .mk _ _ e=>cc e
def gY:List al→Prop
 | []=>True
 | f::r=>Bq f∧gY r
end
theorem fi {x:ag}:cc x↔x.args.length≤65536∧nZ x.args∧gY x.funcs:=by
 obtain ⟨op,nm,v,l,fs⟩:=x
 unfold cc
 rfl
theorem lI:∀ {l:List ag},nZ l→∀ i (h:i<l.length),cc l[i]
 | a::r,h,0,_=>by unfold nZ at h;exact h.1
 | a::r,h,i+1,hi=>by unfold nZ at h;exact lI h.2 i (by simpa using hi)
theorem lJ:∀ {l:List al},gY l→∀ i (h:i<l.length),cc l[i].body
 | f::r,h,0,_=>by
   unfold gY at h
   obtain ⟨nm,ps,e⟩:=f
   have:=h.1
   unfold Bq at this
   exact this
 | a::r,h,i+1,hi=>by unfold gY at h;exact lJ h.2 i (by simpa using hi)
theorem kZ:∀ (l:List ag),(∀ i (h:i<l.length),cc l[i])→nZ l
 | [],_=>by unfold nZ;trivial
 | a::r,h=>by
   unfold nZ
   exact ⟨h 0 (by simp),kZ r fun i hi=>h (i+1) (by simpa using hi)⟩
theorem k8:∀ (l:List al),(∀ i (h:i<l.length),cc l[i].body)→gY l
 | [],_=>by unfold gY;trivial
 | f::r,h=>by
   unfold gY
   refine ⟨?_,k8 r fun i hi=>h (i+1) (by simpa using hi)⟩
   obtain ⟨nm,ps,e⟩:=f
   unfold Bq
   exact h 0 (by simp)
theorem jW {x:ag} (h:bh x=true) {u:ag} (hu:u∈x.args) (ho:u.op=30):u.args=[]∧u.funcs=[]:=by
 obtain ⟨_,_,_,_,_,ha,_⟩:=of_decide_eq_true h
 obtain ⟨i,hi,rfl⟩:=List.getElem_of_mem hu
 unfold eN at ha
 rw [List.all_eq_true] at ha
 have h1:=of_decide_eq_true (ha i (by simpa using hi))
 simp only [List.getD_eq_getElem?_getD,List.getElem?_eq_getElem hi,Option.getD_some] at h1
 obtain ⟨_,h2⟩:=h1 ho
 obtain ⟨_,_,_,h3,h4⟩:=of_decide_eq_true h2
 exact ⟨List.length_eq_zero_iff.1 h3,List.length_eq_zero_iff.1 h4⟩
theorem eX (idB:ByteArray→Bool) (rgB:ag→Bool):∀ (m:Nat) (x:ag) (s y:Int),aV idB rgB (m+1) x s=(y,0)→dpE m x∧y=s+ndE m x:=by
 intro m
 induction m with
 | zero =>
   intro x s y h'
   rw [aV] at h'
   split at h'
   ·simp at h'
   split at h'
   ·simp at h'
   split at h'
   ·rename_i hc;simp at h';exact absurd h'.2 hc.2
   split at h'
   ·simp at h'
   split at h'
   ·simp at h'
   have base:∀ x s y,aV idB rgB 0 x s=(y,0)→False∧y=s+(0:Nat):=fun x s y h=>by simp [aV] at h
   split at h'
   ·rename_i hh;rw [h'] at hh;exact absurd rfl hh
   ·rename_i h2
    have h3:=Classical.not_not.1 h2
    obtain ⟨p,q,hpq⟩:∃ p q,cF idB (aV idB rgB 0) [] x.funcs (s+1)=(p,q):=⟨_,_,rfl⟩
    rw [hpq] at h3 h'
    obtain rfl:q=0:=h3
    obtain ⟨f1,f2⟩:=fe idB _ (fun _=>False) (fun _=>0) base x.funcs [] (s+1) p hpq
    have hf0:x.funcs=[]:=List.eq_nil_iff_forall_not_mem.2 fun u hu=>f1 u hu
    obtain ⟨k1,k2⟩:=eY 0 _ (fun _=>False) (fun _=>0) base x.args _ y (fun u hu _ h0=>absurd rfl h0) h'
    have ha0:x.args=[]:=List.eq_nil_iff_forall_not_mem.2 fun u hu=>k1 u hu
    refine ⟨⟨ha0,hf0⟩,?_⟩
    rw [k2,f2,ha0,hf0]
    simp [ndE]
 | succ m ih =>
   intro x s y h'
   rw [aV] at h'
   split at h'
   ·simp at h'
   split at h'
   ·simp at h'
   split at h'
   ·rename_i hc;simp at h';exact absurd h'.2 hc.2
   split at h'
   ·simp at h'
   split at h'
   ·simp at h'
   split at h'
   ·rename_i hh;rw [h'] at hh;exact absurd rfl hh
   ·rename_i hfb _ _ _ h2
    have hfb':bh x=true:=by simpa using hfb
    have h3:=Classical.not_not.1 h2
    obtain ⟨p,q,hpq⟩:∃ p q,cF idB (aV idB rgB (m+1)) [] x.funcs (s+1)=(p,q):=⟨_,_,rfl⟩
    rw [hpq] at h3 h'
    obtain rfl:q=0:=h3
    obtain ⟨f1,f2⟩:=fe idB (aV idB rgB (m+1)) (dpE m) (ndE m) ih x.funcs [] (s+1) p hpq
    obtain ⟨k1,k2⟩:=eY (m+1) (aV idB rgB (m+1)) (dpE m) (ndE m) ih x.args _ y (fun u hu ho _=>by
     obtain ⟨a1,a2⟩:=jW hfb' hu ho
     exact ⟨x9 m a1 a2,jO m a1 a2⟩) h'
    refine ⟨⟨k1,f1⟩,?_⟩
    rw [k2,f2]
    simp only [ndE]
    omega
end Go.Proofs.YtiefeajappjnbaaGreatDoor

/- The zero value is valid; so is the value of a node that is as its operator asks, but for a literal's. No program here. -/
namespace Go.Proofs.YtiefeajappjnbaaGreatDoor
open Go.RowKit
theorem vC {v:ar} (h:bj v=true):dJ v=0:=by
 obtain ⟨h0,h1,h2,h3,h4,h5,h6,h7⟩:=of_decide_eq_true h
 have ht:v.text.toList=[]:=bv h4
 have ho:fO v=true:=(fY v).2 ⟨by omega,by omega,fun _=>h1,fun _=>h2,fun _=>h3,fun _=>ht,fun _=>by omega,fun _=>by omega,fun _=>by omega⟩
 have hl:v.list=[]:=List.length_eq_zero_iff.1 h6
 have hf:v.fields=[]:=List.length_eq_zero_iff.1 h7
 have hq:¬ (cN v.num=false∨(v.kind=3∧cM v.time=false)):=by
  rw [fS h2]
  rintro (h | ⟨h,_⟩)
  ·cases h
  ·omega
 have h8:du v=0:=by
  rw [om ho hq (fH h4) (by omega)]
  unfold xe
  rw [hf]
  rfl
 unfold dJ
 rw [show bf 48 v 0=if (65536:Int)≤0 then (0,10) else if du v=0 then cX (bf 47) (ca v) (0+1) else (0,du v) from rfl,if_neg (by omega),if_pos h8,nr ho,hl,hf]
 rfl
theorem xH {e:ag} (h:bh e=true) (h3:e.op≠3):dJ e.val=0:=by
 obtain ⟨_,_,_,_,_,_,_,_,hz,_⟩:=of_decide_eq_true h
 rcases hz with hz | hz
 ·exact absurd hz h3
 ·exact vC hz
end Go.Proofs.YtiefeajappjnbaaGreatDoor
