/- The zero value is valid; so is the value of a node that is as its operator asks, but for a literal's. No program here. -/
import Derived.Test.YtiefeajappjnbaaGreatDoorGG
import Derived.Test.YtiefeajappjnbaaGreatDoorGW
namespace Go.Proofs.YtiefeajappjnbaaGreatDoor
open Go.RowKit
theorem zero_chk {v:ValD} (h:zeroB v=true):chkD v=0:=by
 obtain ⟨h0,h1,h2,h3,h4,h5,h6,h7⟩:=of_decide_eq_true h
 have ht:v.text.toList=[]:=toList_nil h4
 have ho:ownB v=true:=(ownB_iff v).2 ⟨by omega,by omega,fun _=>h1,fun _=>h2,fun _=>h3,fun _=>ht,fun _=>by omega,fun _=>by omega,fun _=>by omega⟩
 have hl:v.list=[]:=List.length_eq_zero_iff.1 h6
 have hf:v.fields=[]:=List.length_eq_zero_iff.1 h7
 have hq:¬ (vdecB v.num=false∨(v.kind=3∧vtimeB v.time=false)):=by
  rw [vdec_zero h2]
  rintro (h | ⟨h,_⟩)
  ·cases h
  ·omega
 have h8:oneE v=0:=by
  rw [oneE_k ho hq (valid_empty h4) (by omega)]
  unfold keyD
  rw [hf]
  rfl
 unfold chkD
 rw [show lookD 48 v 0=if (65536:Int)≤0 then (0,10) else if oneE v=0 then kidsL (lookD 47) (kidsD v) (0+1) else (0,oneE v) from rfl,if_neg (by omega),if_pos h8,own_parts ho,hl,hf]
 rfl
theorem form_val {e:ExprD} (h:formB e=true) (h3:e.op≠3):chkD e.val=0:=by
 obtain ⟨_,_,_,_,_,_,_,_,hz,_⟩:=of_decide_eq_true h
 rcases hz with hz | hz
 ·exact absurd hz h3
 ·exact zero_chk hz
end Go.Proofs.YtiefeajappjnbaaGreatDoor

/- The number of nodes of an expression that the check accepts: a plain function and its laws. No program here. -/
namespace Go.Proofs.YtiefeajappjnbaaGreatDoor
open Go.RowKit
def ndE:Nat→ExprD→Nat
 | 0,_=>1
 | m+1,e=>1+(e.funcs.map fun f=>ndE m f.body).sum+(e.args.map (ndE m)).sum
def dpE:Nat→ExprD→Prop
 | 0,e=>e.args=[]∧e.funcs=[]
 | m+1,e=>(∀ a∈e.args,dpE m a)∧∀ f∈e.funcs,dpE m f.body
def sumA (m:Nat) (l:List ExprD) (k:Nat):Nat:=((l.take k).map (ndE m)).sum
def sumF (m:Nat) (l:List FuncD) (k:Nat):Nat:=((l.take k).map fun f=>ndE m f.body).sum
theorem sumA_0 (m:Nat) (l:List ExprD):sumA m l 0=0:=rfl
theorem sumF_0 (m:Nat) (l:List FuncD):sumF m l 0=0:=rfl
theorem sum_step {α:Type} (f:α→Nat) {l:List α} {k:Nat} (h:k<l.length):((l.take (k+1)).map f).sum=((l.take k).map f).sum+f l[k]:=by
 rw [← List.take_append_getElem h,List.map_append,List.sum_append]
 simp only [List.map_cons,List.map_nil,List.sum_cons,List.sum_nil,Nat.add_zero]
theorem sum_le {α:Type} (f:α→Nat) (l:List α) (k:Nat):((l.take k).map f).sum≤(l.map f).sum:=by
 have h:=congrArg (fun q=>(q.map f).sum) (List.take_append_drop k l)
 simp only [List.map_append,List.sum_append] at h
 omega
theorem sumA_step (m:Nat) {l:List ExprD} {k:Nat} (h:k<l.length):sumA m l (k+1)=sumA m l k+ndE m l[k]:=sum_step _ h
theorem sumF_step (m:Nat) {l:List FuncD} {k:Nat} (h:k<l.length):sumF m l (k+1)=sumF m l k+ndE m l[k].body:=sum_step _ h
theorem sumA_le (m:Nat) (l:List ExprD) (k:Nat):sumA m l k≤(l.map (ndE m)).sum:=sum_le _ l k
theorem sumF_le (m:Nat) (l:List FuncD) (k:Nat):sumF m l k≤(l.map fun f=>ndE m f.body).sum:=sum_le _ l k
theorem sumA_end (m:Nat) (l:List ExprD):sumA m l l.length=(l.map (ndE m)).sum:=by unfold sumA;rw [List.take_length]
theorem sumF_end (m:Nat) (l:List FuncD):sumF m l l.length=(l.map fun f=>ndE m f.body).sum:=by unfold sumF;rw [List.take_length]
theorem ndE_succ (m:Nat) (e:ExprD):ndE (m+1) e=1+sumF m e.funcs e.funcs.length+sumA m e.args e.args.length:=by rw [sumA_end,sumF_end];rfl
theorem ndE_arg (m:Nat) (e:ExprD) {k:Nat} (h:k<e.args.length):sumF m e.funcs e.funcs.length+sumA m e.args k+ndE m e.args[k]<ndE (m+1) e:=by
 have:=sumA_le m e.args (k+1)
 rw [sumA_step m h,← sumA_end] at this
 rw [ndE_succ]
 omega
theorem ndE_fun (m:Nat) (e:ExprD) {k:Nat} (h:k<e.funcs.length):sumF m e.funcs k+ndE m e.funcs[k].body+sumA m e.args e.args.length<ndE (m+1) e:=by
 have:=sumF_le m e.funcs (k+1)
 rw [sumF_step m h,← sumF_end] at this
 rw [ndE_succ]
 omega
theorem ndE_leaf (m:Nat) {e:ExprD} (ha:e.args=[]) (hf:e.funcs=[]):ndE m e=1:=by
 cases m with
 | zero=>rfl
 | succ m=>rw [ndE_succ,ha,hf];rfl
theorem dpE_leaf (m:Nat) {e:ExprD} (ha:e.args=[]) (hf:e.funcs=[]):dpE m e:=by
 cases m with
 | zero=>exact ⟨ha,hf⟩
 | succ m=>exact ⟨by rw [ha];simp,by rw [hf];simp⟩
theorem funs_done (idB:ByteArray→Bool) (f:ExprD→Int→Int×Int) (Q:ExprD→Prop) (g:ExprD→Nat) (hf:∀ x s y,f x s=(y,0)→Q x∧y=s+g x) :
 ∀ (l:List FuncD) (seen:List ByteArray) (s y:Int),funsE idB f seen l s=(y,0)→(∀ u∈l,Q u.body)∧y=s+((l.map fun u=>g u.body).sum:Nat)
 | [],seen,s,y,h=>by
   simp only [funsE,Prod.mk.injEq] at h
   refine ⟨by simp,?_⟩
   simp
   omega
 | x::r,seen,s,y,h=>by
   simp only [funsE] at h
   split at h
   ·rename_i hh
    rw [Prod.mk.injEq] at h
    exact absurd h.2 hh
   ·split at h
    ·rename_i h1 hh
     rw [h] at hh
     exact absurd rfl hh
    ·rename_i h1 h2
     have h3:(f x.body s).2=0:=by simpa using h2
     obtain ⟨q1,q2⟩:=hf x.body s (f x.body s).1 (by rw [← h3])
     obtain ⟨i1,i2⟩:=funs_done idB f Q g hf r _ _ _ h
     refine ⟨fun u hu=>?_,?_⟩
     ·rcases List.mem_cons.1 hu with rfl | hu
      ·exact q1
      ·exact i1 u hu
     ·rw [List.map_cons,List.sum_cons,i2,q2];omega
theorem kids_done (m:Nat) (f:ExprD→Int→Int×Int) (Q:ExprD→Prop) (g:ExprD→Nat) (hf:∀ x s y,f x s=(y,0)→Q x∧y=s+g x) :
 ∀ (l:List ExprD) (s y:Int),(∀ u∈l,u.op=30→m≠0→Q u∧g u=1)→kidsE m f l s=(y,0)→(∀ u∈l,Q u)∧y=s+((l.map g).sum:Nat)
 | [],s,y,_,h=>by
   simp only [kidsE,Prod.mk.injEq] at h
   refine ⟨by simp,?_⟩
   simp
   omega
 | x::r,s,y,ha,h=>by
   simp only [kidsE] at h
   split at h
   ·rename_i hh
    rw [h] at hh
    exact absurd rfl hh
   ·rename_i h2
    have h3:(kidE m f x s).2=0:=by simpa using h2
    obtain ⟨i1,i2⟩:=kids_done m f Q g hf r _ _ (fun u hu=>ha u (List.mem_cons_of_mem _ hu)) h
    have hq:Q x∧(kidE m f x s).1=s+g x:=by
     unfold kidE at h3 ⊢
     split at h3
     ·rename_i ho
      rw [if_pos ho]
      split at h3
      ·exact absurd (show (9:Int)=0 from h3) (by decide)
      ·rename_i hm
       rw [if_neg hm]
       split at h3
       ·exact absurd (show (10:Int)=0 from h3) (by decide)
       ·rename_i hs
        rw [if_neg hs]
        obtain ⟨a1,a2⟩:=ha x (List.mem_cons_self ..) ho hm
        exact ⟨a1,by rw [a2];rfl⟩
     ·rename_i ho
      rw [if_neg ho]
      exact hf x s (f x s).1 (by rw [← h3])
    refine ⟨fun u hu=>?_,?_⟩
    ·rcases List.mem_cons.1 hu with rfl | hu
     ·exact hq.1
     ·exact i1 u hu
    ·rw [List.map_cons,List.sum_cons,i2,hq.2];omega
mutual
def smlE:ExprD→Prop
 | .mk _ _ _ l fs=>l.length≤65536∧smlL l∧smlF fs
def smlL:List ExprD→Prop
 | []=>True
 | a::r=>smlE a∧smlL r
def smlU:FuncD→Prop
 | .mk _ _ e=>smlE e
def smlF:List FuncD→Prop
 | []=>True
 | f::r=>smlU f∧smlF r
end
theorem smlE_iff {x:ExprD}:smlE x↔x.args.length≤65536∧smlL x.args∧smlF x.funcs:=by
 obtain ⟨op,nm,v,l,fs⟩:=x
 unfold smlE
 rfl
theorem smlL_get:∀ {l:List ExprD},smlL l→∀ i (h:i<l.length),smlE l[i]
 | a::r,h,0,_=>by unfold smlL at h;exact h.1
 | a::r,h,i+1,hi=>by unfold smlL at h;exact smlL_get h.2 i (by simpa using hi)
theorem smlF_get:∀ {l:List FuncD},smlF l→∀ i (h:i<l.length),smlE l[i].body
 | f::r,h,0,_=>by
   unfold smlF at h
   obtain ⟨nm,ps,e⟩:=f
   have:=h.1
   unfold smlU at this
   exact this
 | a::r,h,i+1,hi=>by unfold smlF at h;exact smlF_get h.2 i (by simpa using hi)
theorem smlL_of:∀ (l:List ExprD),(∀ i (h:i<l.length),smlE l[i])→smlL l
 | [],_=>by unfold smlL;trivial
 | a::r,h=>by
   unfold smlL
   exact ⟨h 0 (by simp),smlL_of r fun i hi=>h (i+1) (by simpa using hi)⟩
theorem smlF_of:∀ (l:List FuncD),(∀ i (h:i<l.length),smlE l[i].body)→smlF l
 | [],_=>by unfold smlF;trivial
 | f::r,h=>by
   unfold smlF
   refine ⟨?_,smlF_of r fun i hi=>h (i+1) (by simpa using hi)⟩
   obtain ⟨nm,ps,e⟩:=f
   unfold smlU
   exact h 0 (by simp)
theorem form_abs {x:ExprD} (h:formB x=true) {u:ExprD} (hu:u∈x.args) (ho:u.op=30):u.args=[]∧u.funcs=[]:=by
 obtain ⟨_,_,_,_,_,ha,_⟩:=of_decide_eq_true h
 obtain ⟨i,hi,rfl⟩:=List.getElem_of_mem hu
 unfold argsB at ha
 rw [List.all_eq_true] at ha
 have h1:=of_decide_eq_true (ha i (by simpa using hi))
 simp only [List.getD_eq_getElem?_getD,List.getElem?_eq_getElem hi,Option.getD_some] at h1
 obtain ⟨_,h2⟩:=h1 ho
 obtain ⟨_,_,_,h3,h4⟩:=of_decide_eq_true h2
 exact ⟨List.length_eq_zero_iff.1 h3,List.length_eq_zero_iff.1 h4⟩
theorem look_done (idB:ByteArray→Bool) (rgB:ExprD→Bool):∀ (m:Nat) (x:ExprD) (s y:Int),lookE idB rgB (m+1) x s=(y,0)→dpE m x∧y=s+ndE m x:=by
 intro m
 induction m with
 | zero =>
   intro x s y h'
   rw [lookE] at h'
   split at h'
   ·simp at h'
   split at h'
   ·simp at h'
   split at h'
   ·rename_i hc;simp at h';exact absurd h'.2 hc.2
   split at h'
   ·simp at h'
   split at h'
   ·simp at h'
   have base:∀ x s y,lookE idB rgB 0 x s=(y,0)→False∧y=s+(0:Nat):=fun x s y h=>by simp [lookE] at h
   split at h'
   ·rename_i hh;rw [h'] at hh;exact absurd rfl hh
   ·rename_i h2
    have h3:=Classical.not_not.1 h2
    obtain ⟨p,q,hpq⟩:∃ p q,funsE idB (lookE idB rgB 0) [] x.funcs (s+1)=(p,q):=⟨_,_,rfl⟩
    rw [hpq] at h3 h'
    obtain rfl:q=0:=h3
    obtain ⟨f1,f2⟩:=funs_done idB _ (fun _=>False) (fun _=>0) base x.funcs [] (s+1) p hpq
    have hf0:x.funcs=[]:=List.eq_nil_iff_forall_not_mem.2 fun u hu=>f1 u hu
    obtain ⟨k1,k2⟩:=kids_done 0 _ (fun _=>False) (fun _=>0) base x.args _ y (fun u hu _ h0=>absurd rfl h0) h'
    have ha0:x.args=[]:=List.eq_nil_iff_forall_not_mem.2 fun u hu=>k1 u hu
    refine ⟨⟨ha0,hf0⟩,?_⟩
    rw [k2,f2,ha0,hf0]
    simp [ndE]
 | succ m ih =>
   intro x s y h'
   rw [lookE] at h'
   split at h'
   ·simp at h'
   split at h'
   ·simp at h'
   split at h'
   ·rename_i hc;simp at h';exact absurd h'.2 hc.2
   split at h'
   ·simp at h'
   split at h'
   ·simp at h'
   split at h'
   ·rename_i hh;rw [h'] at hh;exact absurd rfl hh
   ·rename_i hfb _ _ _ h2
    have hfb':formB x=true:=by simpa using hfb
    have h3:=Classical.not_not.1 h2
    obtain ⟨p,q,hpq⟩:∃ p q,funsE idB (lookE idB rgB (m+1)) [] x.funcs (s+1)=(p,q):=⟨_,_,rfl⟩
    rw [hpq] at h3 h'
    obtain rfl:q=0:=h3
    obtain ⟨f1,f2⟩:=funs_done idB (lookE idB rgB (m+1)) (dpE m) (ndE m) ih x.funcs [] (s+1) p hpq
    obtain ⟨k1,k2⟩:=kids_done (m+1) (lookE idB rgB (m+1)) (dpE m) (ndE m) ih x.args _ y (fun u hu ho _=>by
     obtain ⟨a1,a2⟩:=form_abs hfb' hu ho
     exact ⟨dpE_leaf m a1 a2,ndE_leaf m a1 a2⟩) h'
    refine ⟨⟨k1,f1⟩,?_⟩
    rw [k2,f2]
    simp only [ndE]
    omega
end Go.Proofs.YtiefeajappjnbaaGreatDoor
