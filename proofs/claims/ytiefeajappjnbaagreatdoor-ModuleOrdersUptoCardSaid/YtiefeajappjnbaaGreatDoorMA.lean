/- What an accepted expression is, node by node: its form, its literal, its absent arguments. No program here. (Wfe43 without programs.) -/
import Derived.Test.YtiefeajappjnbaaGreatDoorGK
import Derived.Test.YtiefeajappjnbaaGreatDoorHO
import Derived.Test.YtiefeajappjnbaaGreatDoorGW
import Derived.Test.YtiefeajappjnbaaGreatDoorMB
import Derived.Test.YtiefeajappjnbaaGreatDoorGJ
import Derived.Test.YtiefeajappjnbaaGreatDoorGI
namespace Go.Proofs.YtiefeajappjnbaaGreatDoor
open Go.RowKit
def wf1 (e:ExprD):Prop:=formB e=true∧(e.op=3→chkD e.val=0)
def wfE:Nat→ExprD→Prop
 | 0,e=>wf1 e∧e.args=[]∧e.funcs=[]
 | m+1,e=>wf1 e∧(∀ a∈e.args,a.op=30∨wfE m a)∧∀ f∈e.funcs,f.body.op=30∨wfE m f.body
theorem wfE_1 {m:Nat} {e:ExprD} (h:wfE m e):wf1 e:=by
 cases m with
 | zero=>exact h.1
 | succ m=>exact h.1
theorem look_wf (idB:ByteArray→Bool) (rgB:ExprD→Bool):∀ (m:Nat) (x:ExprD) (s y:Int),lookE idB rgB (m+1) x s=(y,0)→wfE m x:=by
 intro m
 induction m with
 | zero =>
   intro x s y h
   obtain ⟨ha,hf⟩:=(look_done idB rgB 0 x s y h).1
   refine ⟨?_,ha,hf⟩
   rw [lookE] at h
   split at h
   ·simp at h
   split at h
   ·simp at h
   split at h
   ·rename_i hc;simp at h;exact absurd h.2 hc.2
   rename_i hfb hc
   exact ⟨by simpa using hfb,fun h3=>by
    rcases Classical.em (chkD x.val=0) with h4 | h4
    ·exact h4
    ·exact absurd ⟨h3,h4⟩ hc⟩
 | succ m ih =>
   intro x s y h'
   rw [lookE] at h'
   split at h'
   ·simp at h'
   split at h'
   ·simp at h'
   split at h'
   ·rename_i hc;simp at h';exact absurd h'.2 hc.2
   split at h'
   ·simp at h'
   split at h'
   ·simp at h'
   split at h'
   ·rename_i hh;rw [h'] at hh;exact absurd rfl hh
   ·rename_i hfb hc _ _ h2
    have hfb':formB x=true:=by simpa using hfb
    have hq:wf1 x:=⟨hfb',fun h3=>by
     rcases Classical.em (chkD x.val=0) with h4 | h4
     ·exact h4
     ·exact absurd ⟨h3,h4⟩ hc⟩
    have h3:=Classical.not_not.1 h2
    obtain ⟨p,q,hpq⟩:∃ p q,funsE idB (lookE idB rgB (m+1)) [] x.funcs (s+1)=(p,q):=⟨_,_,rfl⟩
    rw [hpq] at h3 h'
    obtain rfl:q=0:=h3
    have ih2:∀ x s y,lookE idB rgB (m+1) x s=(y,0)→(x.op=30∨wfE m x)∧y=s+ndE m x:=fun x s y h=>⟨.inr (ih x s y h),(look_done idB rgB m x s y h).2⟩
    obtain ⟨f1,_⟩:=funs_done idB (lookE idB rgB (m+1)) (fun u=>u.op=30∨wfE m u) (ndE m) ih2 x.funcs [] (s+1) p hpq
    obtain ⟨k1,_⟩:=kids_done (m+1) (lookE idB rgB (m+1)) (fun u=>u.op=30∨wfE m u) (ndE m) ih2 x.args _ y (fun u hu ho _=>by
     obtain ⟨a1,a2⟩:=form_abs hfb' hu ho
     exact ⟨.inl ho,ndE_leaf m a1 a2⟩) h'
    exact ⟨hq,k1,f1⟩
theorem err_wf {x:ExprD} (h:errE x=0):wfE 47 x:=look_wf identB rgB 47 x 0 (lkE 48 x 0).1 (Prod.ext rfl h)
theorem wf_num {e:ExprD} (h:wf1 e) {n:Nat} (hn:numE e.op=n):e.args.length=n:=by
 obtain ⟨_,_,h3,_⟩:=of_decide_eq_true h.1
 have:=h3 (by omega)
 omega
theorem wf_abs {e:ExprD} (h:wf1 e) {k:Nat} (hk:k<e.args.length) (ho:e.args[k].op=30):optE e.op≤k∧absB e.args[k]=true:=by
 obtain ⟨_,_,_,_,_,ha,_⟩:=of_decide_eq_true h.1
 unfold argsB at ha
 rw [List.all_eq_true] at ha
 have h1:=of_decide_eq_true (ha k (by simpa using hk))
 simp only [List.getD_eq_getElem?_getD,List.getElem?_eq_getElem hk,Option.getD_some] at h1
 exact h1 ho
theorem wf_kid {m:Nat} {e:ExprD} (h:wfE m e) {k:Nat} (hk:k<e.args.length):e.args[k].op=30∨∃ m',m=m'+1∧wfE m' e.args[k]:=by
 cases m with
 | zero =>
   obtain ⟨_,ha,_⟩:=h
   rw [ha] at hk
   simp at hk
 | succ m =>
   rcases h.2.1 _ (List.getElem_mem hk) with h1 | h1
   ·exact .inl h1
   ·exact .inr ⟨m,rfl,h1⟩
theorem wf_dec {e:ExprD} (h:wf1 e):VDec e.val.num∧e.val.num.neg=false∧(e.op≠3→e.val.kind=0∧e.val.num.exp=0):=by
 obtain ⟨_,_,_,_,_,_,_,_,hz,_,_,hl,_⟩:=of_decide_eq_true h.1
 by_cases h3:e.op=3
 ·have hc:=h.2 h3
  have ho:oneE e.val=0:=by
   rcases Classical.em (oneE e.val=0) with h | h
   ·exact h
   ·exfalso
    have h1:(lookD 48 e.val 0).2=0:=hc
    rw [show lookD 48 e.val 0=(if 65536≤(0:Int) then (0,10) else if oneE e.val=0 then kidsL (lookD 47) (kidsD e.val) (0+1) else (0,oneE e.val)) from rfl,if_neg (by decide),if_neg h] at h1
    exact h h1
  unfold oneE at ho
  split at ho
  ·simp at ho
  rename_i h1
  split at ho
  ·simp at ho
  rename_i h2
  have hd:vdecB e.val.num=true:=by
   cases hq:vdecB e.val.num
   ·exact absurd (.inl hq) h2
   ·rfl
  refine ⟨(vdecB_iff _).1 hd,?_,fun h=>absurd h3 h⟩
  have hk:=of_decide_eq_true (hl h3)
  have hw:=of_decide_eq_true (show ownB e.val=true by simpa using h1)
  by_cases h2:e.val.kind=2
  ·rcases hk with hk | hk | ⟨_,hk⟩ | hk
   ·omega
   ·omega
   ·exact hk
   ·omega
  ·have:=hw.2.2.2.1 h2
   simp [decB] at this
   exact this.1
 ·have hz':=of_decide_eq_true (hz.resolve_left h3)
  obtain ⟨k0,_,k1,_⟩:=hz'
  refine ⟨(vdecB_iff _).1 (vdec_zero k1),?_,fun _=>⟨k0,?_⟩⟩
  ·simp [decB] at k1
   exact k1.1
  ·simp [decB] at k1
   exact k1.2.2
end Go.Proofs.YtiefeajappjnbaaGreatDoor

/- How long the source of an accepted expression can be: plain laws. No program here. -/
namespace Go.Proofs.YtiefeajappjnbaaGreatDoor
open Go.RowKit
theorem sz_lit (a:Array UInt8):(⟨a⟩:ByteArray).size=a.size:=rfl
theorem inP_size (s:ByteArray):(inP s).size=s.size+2:=by
 unfold inP
 simp only [ByteArray.size_append,sz_lit]
 simp
 omega
theorem atS_size (f:ExprD→ByteArray) (k:Int) (e:ExprD):(atS f k e).size≤(f e).size+2:=by
 unfold atS
 split
 ·rw [inP_size];omega
 ·omega
theorem presS_size (f:ExprD→ByteArray) (e:ExprD):(presS f e).size≤(f e).size:=by
 unfold presS
 split
 ·exact Nat.zero_le _
 ·omega
theorem bodyS_size (f:ExprD→ByteArray) (e:ExprD):(bodyS f e).size≤(f e).size+2:=by
 unfold bodyS
 split
 ·rw [inP_size];omega
 ·omega
theorem joinS_size (sep:ByteArray):∀ l:List ByteArray,(joinS sep l).size≤(l.map fun s=>s.size+sep.size).sum
 | []=>Nat.zero_le _
 | [a]=>by simp [joinS]
 | a::b::r=>by
   have:=joinS_size sep (b::r)
   simp only [joinS,ByteArray.size_append,List.map_cons,List.sum_cons] at this ⊢
   omega
theorem parS_size (p:ParD):(parS p).size≤p.name.size+1:=by
 unfold parS
 split
 ·rw [ByteArray.size_append,sz_lit];simp;omega
 ·omega
theorem sum_const {α:Type} (f:α→Nat) (k:Nat):∀ l:List α,(∀ x∈l,f x≤k)→(l.map f).sum≤l.length * k
 | [],_=>by simp
 | a::r,h=>by
   have h1:=sum_const f k r (fun x hx=>h x (List.mem_cons_of_mem _ hx))
   have h2:=h a (List.mem_cons_self)
   simp only [List.map_cons,List.sum_cons,List.length_cons,Nat.add_mul,Nat.one_mul]
   omega
theorem headS_size (N P:Nat) (hP:8 * (N+3)≤P) (x:FuncD) (hn:x.name.size≤N) (hp:x.params.length≤8) (hs:∀ p∈x.params,p.name.size≤N):(headS x).size≤P+N+64:=by
 unfold headS
 split
 ·simp only [ByteArray.size_append,sz_lit,List.size_toArray,List.length_cons,List.length_nil];omega
 ·have h1:=joinS_size ⟨#[59,32]⟩ (x.params.map parS)
  have h2:=sum_const (fun s=>s.size+(⟨#[59,32]⟩:ByteArray).size) (N+3) (x.params.map parS) (fun s hs'=>by
   obtain ⟨p,hp',rfl⟩:=List.mem_map.1 hs'
   have:=parS_size p
   have:=hs p hp'
   simp only [sz_lit,List.size_toArray,List.length_cons,List.length_nil]
   omega)
  rw [List.length_map] at h2
  have h3:x.params.length * (N+3)≤8 * (N+3):=Nat.mul_le_mul_right _ hp
  have h4:=Nat.le_trans h1 (Nat.le_trans h2 (Nat.le_trans h3 hP))
  simp only [ByteArray.size_append,sz_lit,List.size_toArray,List.length_cons,List.length_nil]
  omega
theorem wholeS_size (n:Nat) (h:n<10 ^ 20):(wholeS n).size≤20:=by
 unfold wholeS fromI
 split
 ·rw [sz_lit];simp
 ·rw [strOfNums_size];exact digL_len 20 n h
theorem zeros_size (n:Nat):(zerosS n).size=n:=by unfold zerosS;rw [strOfNums_size,List.length_replicate]
theorem ext_size (s:ByteArray) (a b:Nat):(s.extract a b).size≤s.size:=by rw [ByteArray.size_extract];omega
theorem numT_size (d:DecD) (N:Nat) (hd:d.digits.size≤N) (he:-1000000000≤d.exp∧d.exp≤1000000000) (hN:N≤1048576):(numT d).size≤2 * N+64:=by
 have h0:(signS d.neg).size≤1:=by unfold signS;split<;>simp [sz_lit]
 have x1:=ext_size d.digits 0 1
 have x2:=ext_size d.digits 1 d.digits.size
 have x3:=ext_size d.digits 0 (d.digits.size+d.exp).toNat
 have x4:=ext_size d.digits (d.digits.size+d.exp).toNat d.digits.size
 have w1:=wholeS_size (1-(d.digits.size+d.exp)).toNat (by omega)
 have w2:=wholeS_size (d.digits.size+d.exp-1).toNat (by omega)
 unfold numT
 repeat' split
 all_goals
  simp only [ByteArray.size_append,sz_lit,zeros_size,List.size_toArray,List.length_cons,List.length_nil]
  omega
theorem litS_size (v:ValD) (N:Nat) (hd:v.num.digits.size≤N) (he:-1000000000≤v.num.exp∧v.num.exp≤1000000000) (hN:N≤1048576) (ht:v.text.size≤N):(litS v).size≤6 * N+64:=by
 have h1:=numT_size v.num N hd he hN
 have h2:=quoteS_size v.text
 unfold litS
 repeat' split
 all_goals first
  | omega
  | (simp only [sz_lit,List.size_toArray,List.length_cons,List.length_nil];omega)
theorem sum1 {g:ExprD→Nat} {l:List ExprD} (h:l.length=1):(l.map g).sum=g (l.getD 0 default):=by
 match l,h with
 | [a],_=>simp
theorem sum2 {g:ExprD→Nat} {l:List ExprD} (h:l.length=2):(l.map g).sum=g (l.getD 0 default)+g (l.getD 1 default):=by
 match l,h with
 | [a,b],_=>simp
theorem sum3 {g:ExprD→Nat} {l:List ExprD} (h:l.length=3):(l.map g).sum=g (l.getD 0 default)+(g (l.getD 1 default)+g (l.getD 2 default)):=by
 match l,h with
 | [a,b,c],_=>simp
theorem sum4 {g:ExprD→Nat} {l:List ExprD} (h:l.length=4):(l.map g).sum=g (l.getD 0 default)+(g (l.getD 1 default)+(g (l.getD 2 default)+g (l.getD 3 default))):=by
 match l,h with
 | [a,b,c,d],_=>simp
structure SzN (N:Nat) (e:ExprD):Prop where
 hN:N≤1048576
 name:e.name.size≤N
 digits:e.val.num.digits.size≤N
 exp:-1000000000≤e.val.num.exp∧e.val.num.exp≤1000000000
 text:e.val.text.size≤N
 funs:∀ x∈e.funcs,x.name.size≤N∧x.params.length≤8∧∀ p∈x.params,p.name.size≤N
theorem keyS_size (f:ExprD→ByteArray) (e:ExprD) (N:Nat) (ht:e.val.text.size≤N):(keyS f e).size≤(f e).size+(6 * N+2):=by
 have:=quoteS_size e.val.text
 unfold keyS
 split
 ·omega
 ·rw [inP_size];omega
theorem pairsS_size (f:ExprD→ByteArray) (N:Nat):∀ l:List ExprD,(∀ a∈l,a.val.text.size≤N)→(joinS ⟨#[44,32]⟩ (pairsS f l)).size≤(l.map fun a=>(f a).size+(6 * N+8)).sum
 | [],_=>by simp [pairsS,joinS,sz_lit]
 | [a],_=>by simp [pairsS,joinS,sz_lit]
 | k::v::r,h=>by
   have h1:=pairsS_size f N r (fun a ha=>h a (by simp [ha]))
   have h2:=keyS_size f k N (h k (by simp))
   have h3:=atS_size f 2 v
   have h4:(joinS ⟨#[44,32]⟩ (pairsS f (k::v::r))).size≤(keyS f k++⟨#[58,32]⟩++atS f 2 v).size+2+(joinS ⟨#[44,32]⟩ (pairsS f r)).size:=by
    rw [pairsS]
    cases hr:pairsS f r with
    | nil=>simp only [joinS,ByteArray.size_append];omega
    | cons b t=>simp only [joinS,ByteArray.size_append,sz_lit,List.size_toArray,List.length_cons,List.length_nil];omega
   simp only [ByteArray.size_append,sz_lit,List.map_cons,List.sum_cons] at h4 ⊢
   simp at h4 ⊢
   omega
theorem defsS_size (f:ExprD→ByteArray) (N P:Nat) (hP:8 * (N+3)≤P):∀ l:List FuncD,(∀ x∈l,x.name.size≤N∧x.params.length≤8∧∀ p∈x.params,p.name.size≤N)→(defsS f l).size≤(l.map fun x=>(f x.body).size+(P+N+70)).sum
 | [],_=>Nat.zero_le _
 | x::r,h=>by
   have h1:=defsS_size f N P hP r (fun a ha=>h a (by simp [ha]))
   obtain ⟨a1,a2,a3⟩:=h x (by simp)
   have h2:=headS_size N P hP x a1 a2 a3
   simp only [defsS,defS,ByteArray.size_append,sz_lit,List.map_cons,List.sum_cons]
   simp
   omega
theorem sum_add {α:Type} (g:α→Nat) (k:Nat):∀ l:List α,(l.map fun a=>g a+k).sum=(l.map g).sum+l.length * k
 | []=>by simp
 | a::r=>by
   have:=sum_add g k r
   simp only [List.map_cons,List.sum_cons,List.length_cons,Nat.add_mul,Nat.one_mul] at this ⊢
   omega
theorem sum_mono {α:Type} (g h:α→Nat):∀ l:List α,(∀ a∈l,g a≤h a)→(l.map g).sum≤(l.map h).sum
 | [],_=>by simp
 | a::r,q=>by
   have h1:=sum_mono g h r (fun x hx=>q x (List.mem_cons_of_mem _ hx))
   have h2:=q a (List.mem_cons_self)
   simp only [List.map_cons,List.sum_cons]
   omega
theorem sum_mul {α:Type} (k:Nat) (g:α→Nat):∀ l:List α,(l.map fun a=>k * g a).sum=k * (l.map g).sum
 | []=>by simp
 | a::r=>by
   have:=sum_mul k g r
   simp only [List.map_cons,List.sum_cons,Nat.mul_add] at this ⊢
   omega
set_option maxHeartbeats 6400000 in
theorem stepT_size (N P:Nat) (hP:8 * (N+3)≤P) (f:ExprD→ByteArray) (e:ExprD) (h1:wf1 e) (hb:SzN N e) (hk:∀ a∈e.args,a.val.text.size≤N) :
 (stepT f e).size≤(e.args.map fun a=>(f a).size+(6 * N+16)).sum+(e.funcs.map fun x=>(f x.body).size+(P+N+70)).sum+(6 * N+64):=by
 have hq:=quoteS_size e.name
 have hn:=hb.name
 have hl:=litS_size e.val N hb.digits hb.exp hb.hN hb.text
 have hfun:=defsS_size f N P hP e.funcs hb.funs
 have at0:=fun k=>atS_size f k (e.args.getD 0 default)
 have at1:=fun k=>atS_size f k (e.args.getD 1 default)
 have p0:=presS_size f (e.args.getD 0 default)
 have p1:=presS_size f (e.args.getD 1 default)
 have p2:=presS_size f (e.args.getD 2 default)
 have b0:=bodyS_size f (e.args.getD 0 default)
 have h29:e.op≤29:=(of_decide_eq_true h1.1).2.1
 have z2:∀ (n:Nat) (l r:Int) (o:ByteArray),e.args.length=2→o.size≤N+8→(twoS f e l o r).size≤(e.args.map fun a=>(f a).size+(6 * N+16)).sum+(e.funcs.map fun x=>(f x.body).size+(P+N+70)).sum+(6 * N+64):=by
  intro _ l r o h2 ho
  have h:=sum2 (g:=fun a=>(f a).size+(6 * N+16)) h2
  have:=at0 l
  have:=at1 r
  rw [h]
  unfold twoS
  simp only [ByteArray.size_append]
  omega
 rcases ops31 (show 1≤e.op∧e.op≤30 by have:=of_decide_eq_true h1.1;omega) with h | h | h | h | h | h | h | h | h | h | h | h | h | h | h | h | h | h | h | h | h | h | h | h | h | h | h | h | h | h
 all_goals
  unfold stepT
  rw [h]
  simp only [if_true,if_false,Int.reduceEq]
 all_goals try (rw [sz_lit,List.size_toArray];simp only [List.length_cons,List.length_nil];omega)
 all_goals first
  | (refine z2 0 _ _ _ (wf_num h1 (by rw [h];decide)) ?_
     simp only [ByteArray.size_append,sz_lit,List.size_toArray,List.length_cons,List.length_nil]
     omega)
  | skip
 all_goals
  have a10:=at0 10
  have a9:=at0 9
  have a11:=at1 10
  have hj:=joinS_size ⟨#[59,32]⟩ (e.args.map f)
  rw [List.map_map] at hj
  have hj2:=sum_mono ((fun s:ByteArray=>s.size+(⟨#[59,32]⟩:ByteArray).size) ∘ f) (fun a=>(f a).size+(6 * N+16)) e.args (fun a _=>by show (f a).size+2≤_;omega)
  have hp:=pairsS_size f N e.args hk
  have hp2:=sum_mono (fun a=>(f a).size+(6 * N+8)) (fun a=>(f a).size+(6 * N+16)) e.args (fun a _=>by show (f a).size+(6 * N+8)≤(f a).size+(6 * N+16);omega)
  first
   | have hs:=sum1 (g:=fun a=>(f a).size+(6 * N+16)) (l:=e.args) (wf_num h1 (by rw [h];decide))
   | have hs:=sum2 (g:=fun a=>(f a).size+(6 * N+16)) (l:=e.args) (wf_num h1 (by rw [h];decide))
   | have hs:=sum3 (g:=fun a=>(f a).size+(6 * N+16)) (l:=e.args) (wf_num h1 (by rw [h];decide))
   | have hs:=sum4 (g:=fun a=>(f a).size+(6 * N+16)) (l:=e.args) (wf_num h1 (by rw [h];decide))
   | have hs:=trivial
  clear z2 at0 at1
  repeat' split
  all_goals
   try simp only [ByteArray.size_append,sz_lit,List.size_toArray,List.length_cons,List.length_nil]
   omega
def SzT (N:Nat):Nat→ExprD→Prop
 | 0,e=>SzN N e
 | m+1,e=>SzN N e∧(∀ a∈e.args,a.val.text.size≤N∧(a.op=30∨SzT N m a))∧∀ x∈e.funcs,x.body.op=30∨SzT N m x.body
theorem SzT.node {N m:Nat} {e:ExprD} (h:SzT N m e):SzN N e:=by
 cases m with
 | zero=>exact h
 | succ m=>exact h.1
theorem show_none {m:Nat} {e:ExprD} (h:e.op=30):showS m e=⟨#[]⟩:=by
 cases m
 all_goals
  show stepT _ e=_
  unfold stepT
  rw [h]
  rfl
theorem nd_pos (m:Nat) (e:ExprD):1≤ndE m e:=by
 cases m with
 | zero=>exact Nat.le_refl _
 | succ m=>rw [ndE_succ];omega
theorem show_size (N P:Nat) (hP:8 * (N+3)≤P):∀ (m:Nat) (e:ExprD),wfE m e→SzT N m e→(showS m e).size+(P+16 * N+200)≤2 * (P+16 * N+200) * ndE m e:=by
 intro m
 induction m with
 | zero =>
   intro e hw hs
   have h:=stepT_size N P hP (fun _=>⟨#[]⟩) e hw.1 hs (by rw [hw.2.1];simp)
   rw [hw.2.1,hw.2.2] at h
   have hn:ndE 0 e=1:=rfl
   rw [hn]
   simp only [List.map_nil,List.sum_nil] at h
   show (stepT (fun _=>⟨#[]⟩) e).size+_≤_
   omega
 | succ m ih =>
   intro e hw hs
   have h:=stepT_size N P hP (showS m) e hw.1 hs.1 (fun a ha=>(hs.2.1 a ha).1)
   have hk:∀ a:ExprD,(a.op=30∨wfE m a)→(a.op=30∨SzT N m a)→(showS m a).size+(P+16 * N+200)≤2 * (P+16 * N+200) * ndE m a:=by
    intro a ha hsa
    by_cases h30:a.op=30
    ·rw [show_none h30]
     have:=Nat.mul_le_mul_left (2 * (P+16 * N+200)) (nd_pos m a)
     show 0+_≤_
     omega
    ·exact ih a (ha.resolve_left h30) (hsa.resolve_left h30)
   have h1:=sum_mono (fun a=>(showS m a).size+(6 * N+16)) (fun a=>2 * (P+16 * N+200) * ndE m a) e.args (fun a ha=>by
    have:=hk a (hw.2.1 a ha) (hs.2.1 a ha).2
    show (showS m a).size+(6 * N+16)≤2 * (P+16 * N+200) * ndE m a
    omega)
   have h2:=sum_mono (fun x:FuncD=>(showS m x.body).size+(P+N+70)) (fun x=>2 * (P+16 * N+200) * ndE m x.body) e.funcs (fun x hx=>by
    have:=hk x.body (hw.2.2 x hx) (hs.2.2 x hx)
    show (showS m x.body).size+(P+N+70)≤2 * (P+16 * N+200) * ndE m x.body
    omega)
   have m1:=sum_mul (2 * (P+16 * N+200)) (ndE m) e.args
   have m2:=sum_mul (2 * (P+16 * N+200)) (fun x:FuncD=>ndE m x.body) e.funcs
   have hn:ndE (m+1) e=1+(e.funcs.map fun f=>ndE m f.body).sum+(e.args.map (ndE m)).sum:=rfl
   rw [hn,Nat.mul_add,Nat.mul_add]
   show (stepT (showS m) e).size+_≤_
   omega
end Go.Proofs.YtiefeajappjnbaaGreatDoor

/- An accepted expression, node by node: its form, its literal, its name, its functions. No program here. -/
namespace Go.Proofs.YtiefeajappjnbaaGreatDoor
open Go.RowKit
structure Sh1 (e:ExprD):Prop where
 wf:wf1 e
 rg:rgB e=true
 par:∀ f∈e.funcs,f.params.length≤8
 fun_:e.funcs.length≤256
def shO:Nat→ExprD→Prop
 | 0,e=>Sh1 e∧e.args=[]∧e.funcs=[]
 | m+1,e=>Sh1 e∧(∀ a∈e.args,a.op=30∨shO m a)∧∀ f∈e.funcs,shO m f.body
theorem shO_1 {m:Nat} {e:ExprD} (h:shO m e):Sh1 e:=by
 cases m with
 | zero=>exact h.1
 | succ m=>exact h.1
theorem funs_par (idB:ByteArray→Bool) (f:ExprD→Int→Int×Int):∀ (l:List FuncD) (seen:List ByteArray) (s y:Int),funsE idB f seen l s=(y,0)→∀ u∈l,u.params.length≤8
 | [],_,_,_,_,u,hu=>by cases hu
 | x::r,seen,s,y,h,u,hu=>by
   rw [funsE] at h
   split at h
   ·rename_i h1;simp at h;exact absurd h.2 h1
   rename_i h1
   split at h
   ·rename_i h2;rw [h] at h2;exact absurd rfl h2
   rcases List.mem_cons.1 hu with rfl | hu
   ·have h3:=Classical.not_not.1 h1
    unfold headE at h3
    split at h3
    ·simp at h3
    split at h3
    ·simp at h3
    ·omega
   ·exact funs_par idB f r _ _ y h u hu
theorem look_sh:∀ (m:Nat) (x:ExprD) (s y:Int),lookE identB rgB (m+1) x s=(y,0)→shO m x:=by
 intro m
 induction m with
 | zero =>
   intro x s y h
   obtain ⟨ha,hf⟩:=(look_done identB rgB 0 x s y h).1
   have hw:=look_wf identB rgB 0 x s y h
   refine ⟨⟨hw.1,?_,(fun f h=>by rw [hf] at h;cases h),by rw [hf];exact Nat.zero_le _⟩,ha,hf⟩
   rw [lookE] at h
   split at h
   ·simp at h
   split at h
   ·simp at h
   split at h
   ·rename_i hc;simp at h;exact absurd h.2 hc.2
   split at h
   ·simp at h
   ·rename_i hr;simpa using hr
 | succ m ih =>
   intro x s y h'
   have hw:=wfE_1 (look_wf identB rgB (m+1) x s y h')
   rw [lookE] at h'
   split at h'
   ·simp at h'
   split at h'
   ·simp at h'
   split at h'
   ·rename_i hc;simp at h';exact absurd h'.2 hc.2
   split at h'
   ·simp at h'
   split at h'
   ·simp at h'
   split at h'
   ·rename_i hh;rw [h'] at hh;exact absurd rfl hh
   ·rename_i hfb hc hr h256 h2
    have hfb':formB x=true:=by simpa using hfb
    have h3:=Classical.not_not.1 h2
    obtain ⟨p,q,hpq⟩:∃ p q,funsE identB (lookE identB rgB (m+1)) [] x.funcs (s+1)=(p,q):=⟨_,_,rfl⟩
    rw [hpq] at h3 h'
    obtain rfl:q=0:=h3
    obtain ⟨f1,_⟩:=funs_done identB (lookE identB rgB (m+1)) (shO m) (ndE m) (fun x s y h=>⟨ih x s y h,(look_done identB rgB m x s y h).2⟩) x.funcs [] (s+1) p hpq
    obtain ⟨k1,_⟩:=kids_done (m+1) (lookE identB rgB (m+1)) (fun u=>u.op=30∨shO m u) (ndE m) (fun x s y h=>⟨.inr (ih x s y h),(look_done identB rgB m x s y h).2⟩) x.args _ y (fun u hu ho _=>by
     obtain ⟨a1,a2⟩:=form_abs hfb' hu ho
     exact ⟨.inl ho,ndE_leaf m a1 a2⟩) h'
    exact ⟨⟨hw,by simpa using hr,funs_par identB _ _ _ _ _ hpq,by omega⟩,k1,f1⟩
theorem err_sh {x:ExprD} (h:errE x=0):shO 47 x:=look_sh 47 x 0 (lkE 48 x 0).1 (Prod.ext rfl h)
end Go.Proofs.YtiefeajappjnbaaGreatDoor

/- An accepted expression in memory is small: its source has fewer bytes than an int counts. -/
namespace Go.Proofs.YtiefeajappjnbaaGreatDoor
open Go.RowKit
theorem shO_wf:∀ {m:Nat} {e:ExprD},shO m e→wfE m e
 | 0,_,h=>⟨h.1.wf,h.2⟩
 | _+1,_,h=>⟨h.1.wf,fun a ha=>(h.2.1 a ha).imp id shO_wf,fun f hf=>.inr (shO_wf (h.2.2 f hf))⟩
theorem szn_at {w:World} {B N:Nat} {e:ExprD} {cs:List Value} (hN:N≤1048576) (h1:Sh1 e) (he:ExprD.At w B N e cs):SzN N e:=by
 obtain ⟨aa,fa,ac,fc,vs,hh⟩:=he.has
 obtain ⟨ya,la,va,yc,lc,vc,hv⟩:=hh.atVal.has
 obtain ⟨hd,_,_⟩:=wf_dec h1.wf
 refine ⟨hN,hh.own.2.1,hv.own.2.2.2.2.2.2.1,?_,hv.own.2.2.2.2.2.2.2.1,fun x hx=>?_⟩
 ·rcases hd with ⟨_,_,h⟩ | ⟨_,_,_,_,_,h⟩<;>omega
 ·obtain ⟨i,hi,rfl⟩:=List.getElem_of_mem hx
  obtain ⟨b,o,_,_,hget⟩:=hh.atFuncs.get (by intro h;simp [h] at hi)
  obtain ⟨fs,_,hf⟩:=hget i hi
  obtain ⟨pa,pc,es,hf⟩:=hf.has
  refine ⟨hf.hn,h1.par _ (List.getElem_mem hi),fun p hp=>?_⟩
  obtain ⟨j,hj,rfl⟩:=List.getElem_of_mem hp
  obtain ⟨_,_,_,_,hg⟩:=hf.atPar.get (by intro h;simp [h] at hj)
  exact (hg j hj).1
theorem szt_at {w:World} {B N:Nat} (hN:N≤1048576):∀ (m:Nat) (e:ExprD) (cs:List Value),shO m e→ExprD.At w B N e cs→SzT N m e:=by
 intro m
 induction m with
 | zero=>intro e cs hw he;exact szn_at hN hw.1 he
 | succ m ih =>
   intro e cs hw he
   obtain ⟨aa,fa,ac,fc,vs,hh⟩:=he.has
   refine ⟨szn_at hN hw.1 he,fun a ha=>?_,fun x hx=>?_⟩
   ·obtain ⟨i,hi,rfl⟩:=List.getElem_of_mem ha
    obtain ⟨b,o,_,_,hget⟩:=hh.atArgs.get (by intro h;simp [h] at hi)
    obtain ⟨as0,_,hA⟩:=hget i hi
    obtain ⟨_,_,_,_,_,ah⟩:=hA.has
    obtain ⟨_,_,_,_,_,_,hv⟩:=ah.atVal.has
    refine ⟨hv.own.2.2.2.2.2.2.2.1,?_⟩
    rcases hw.2.1 _ (List.getElem_mem hi) with h | h
    ·exact .inl h
    ·exact .inr (ih _ as0 h hA)
   ·obtain ⟨i,hi,rfl⟩:=List.getElem_of_mem hx
    obtain ⟨b,o,_,_,hget⟩:=hh.atFuncs.get (by intro h;simp [h] at hi)
    obtain ⟨fs,_,hF⟩:=hget i hi
    obtain ⟨pa,pc,es,hF⟩:=hF.has
    exact .inr (ih _ es (hw.2.2 _ (List.getElem_mem hi)) hF.atBody)
theorem show_fit {w:World} {B N:Nat} (hN:N≤1048576) {m:Nat} {e:ExprD} {cs:List Value} (he:shO m e) (hn:ndE m e≤4096) (hA:ExprD.At w B N e cs):(showS m e).size≤274877906944:=by
 have h:=show_size N (8 * (N+3)) (Nat.le_refl _) m e (shO_wf he) (szt_at hN m e cs he hA)
 have h2:2 * (8 * (N+3)+16 * N+200) * ndE m e≤2 * (8 * (N+3)+16 * N+200) * 4096:=Nat.mul_le_mul_left _ hn
 omega
end Go.Proofs.YtiefeajappjnbaaGreatDoor

/- An accepted map's pairs and an accepted expression's definitions are small. No program here. -/
namespace Go.Proofs.YtiefeajappjnbaaGreatDoor
open Go.RowKit
theorem kid_sz (N P:Nat) (hP:8 * (N+3)≤P) (m:Nat) (a:ExprD) (ha:a.op=30∨wfE m a) (hsa:a.op=30∨SzT N m a):(showS m a).size+(P+16 * N+200)≤2 * (P+16 * N+200) * ndE m a:=by
 by_cases h30:a.op=30
 ·rw [show_none h30]
  have:=Nat.mul_le_mul_left (2 * (P+16 * N+200)) (nd_pos m a)
  show 0+_≤_
  omega
 ·exact show_size N P hP m a (ha.resolve_left h30) (hsa.resolve_left h30)
theorem nd_args {m:Nat} {e:ExprD} (h:ndE (m+1) e≤4096):(e.args.map (ndE m)).sum≤4096∧(e.funcs.map fun f=>ndE m f.body).sum≤4096:=by
 have hn:ndE (m+1) e=1+(e.funcs.map fun f=>ndE m f.body).sum+(e.args.map (ndE m)).sum:=rfl
 omega
theorem sum_ge {α:Type} (g:α→Nat):∀ l:List α,(∀ a∈l,1≤g a)→l.length≤(l.map g).sum
 | [],_=>by simp
 | a::r,h=>by
   have h1:=sum_ge g r (fun x hx=>h x (List.mem_cons_of_mem _ hx))
   have h2:=h a (List.mem_cons_self)
   simp only [List.length_cons,List.map_cons,List.sum_cons]
   omega
theorem mem_sum {α:Type} (g:α→Nat):∀ (l:List α) (a:α),a∈l→g a≤(l.map g).sum
 | [],_,h=>by cases h
 | b::r,a,h=>by
   rcases List.mem_cons.1 h with rfl | h
   ·simp only [List.map_cons,List.sum_cons];omega
   ·have:=mem_sum g r a h
    simp only [List.map_cons,List.sum_cons];omega
theorem nd_len {m:Nat} {e:ExprD} (h:ndE (m+1) e≤4096):e.args.length≤4096:=Nat.le_trans (sum_ge (ndE m) e.args fun a _=>nd_pos m a) (nd_args h).1
theorem nd_kid {m:Nat} {e a:ExprD} (h:ndE (m+1) e≤4096) (ha:a∈e.args):ndE m a≤4096:=Nat.le_trans (mem_sum (ndE m) e.args a ha) (nd_args h).1
theorem nd_body {m:Nat} {e:ExprD} {f:FuncD} (h:ndE (m+1) e≤4096) (ha:f∈e.funcs):ndE m f.body≤4096:=Nat.le_trans (mem_sum (fun f:FuncD=>ndE m f.body) e.funcs f ha) (nd_args h).2
theorem pairs_fit {w:World} {B N:Nat} (hN:N≤1048576) {m:Nat} {e:ExprD} {cs:List Value} (he:shO (m+1) e) (hn:ndE (m+1) e≤4096) (hA:ExprD.At w B N e cs):(joinS ⟨#[44,32]⟩ (pairsS (showS m) e.args)).size≤274877906944:=by
 have hs:=szt_at hN (m+1) e cs he hA
 have hw:=shO_wf he
 have h1:=pairsS_size (showS m) N e.args (fun a ha=>(hs.2.1 a ha).1)
 have h2:=sum_mono (fun a=>(showS m a).size+(6 * N+8)) (fun a=>2 * (8 * (N+3)+16 * N+200) * ndE m a) e.args (fun a ha=>by
  have:=kid_sz N (8 * (N+3)) (Nat.le_refl _) m a (hw.2.1 a ha) (hs.2.1 a ha).2
  show (showS m a).size+(6 * N+8)≤2 * (8 * (N+3)+16 * N+200) * ndE m a
  omega)
 rw [sum_mul] at h2
 have h3:2 * (8 * (N+3)+16 * N+200) * (e.args.map (ndE m)).sum≤2 * (8 * (N+3)+16 * N+200) * 4096:=Nat.mul_le_mul_left _ (nd_args hn).1
 omega
theorem defs_fit {w:World} {B N:Nat} (hN:N≤1048576) {m:Nat} {e:ExprD} {cs:List Value} (he:shO (m+1) e) (hn:ndE (m+1) e≤4096) (hA:ExprD.At w B N e cs):(defsS (showS m) e.funcs).size≤274877906944:=by
 have hs:=szt_at hN (m+1) e cs he hA
 have hw:=shO_wf he
 have h1:=defsS_size (showS m) N (8 * (N+3)) (Nat.le_refl _) e.funcs hs.1.funs
 have h2:=sum_mono (fun x:FuncD=>(showS m x.body).size+(8 * (N+3)+N+70)) (fun x=>2 * (8 * (N+3)+16 * N+200) * ndE m x.body) e.funcs (fun x hx=>by
  have:=kid_sz N (8 * (N+3)) (Nat.le_refl _) m x.body (hw.2.2 x hx) (hs.2.2 x hx)
  show (showS m x.body).size+(8 * (N+3)+N+70)≤2 * (8 * (N+3)+16 * N+200) * ndE m x.body
  omega)
 rw [sum_mul (2 * (8 * (N+3)+16 * N+200)) (fun x:FuncD=>ndE m x.body)] at h2
 have h3:2 * (8 * (N+3)+16 * N+200) * (e.funcs.map fun x:FuncD=>ndE m x.body).sum≤2 * (8 * (N+3)+16 * N+200) * 4096:=Nat.mul_le_mul_left _ (nd_args hn).2
 omega
end Go.Proofs.YtiefeajappjnbaaGreatDoor
