/- The number of nodes of an expression that the check accepts: a plain function and its laws. No program here. -/
import Derived.Test.YticpebgjbfanpaaGreatDoorGG
import Derived.Test.YticpebgjbfanpaaGreatDoorGA
import Derived.Test.YticpebgjbfanpaaGreatDoorGK
import Derived.Test.YticpebgjbfanpaaGreatDoorGF
namespace Go.Proofs.YticpebgjbfanpaaGreatDoor
open Go.RowKit
def ndE:Nat→ExprD→Nat
 | 0,_=>1
 | m+1,e=>1+(e.funcs.map fun f=>ndE m f.body).sum+(e.args.map (ndE m)).sum
def dpE:Nat→ExprD→Prop
 | 0,e=>e.args=[]∧e.funcs=[]
 | m+1,e=>(∀ a∈e.args,dpE m a)∧∀ f∈e.funcs,dpE m f.body
def sumA (m:Nat) (l:List ExprD) (k:Nat):Nat:=((l.take k).map (ndE m)).sum
def sumF (m:Nat) (l:List FuncD) (k:Nat):Nat:=((l.take k).map fun f=>ndE m f.body).sum
theorem sumA_end (m:Nat) (l:List ExprD):sumA m l l.length=(l.map (ndE m)).sum:=by unfold sumA;rw [List.take_length]
theorem sumF_end (m:Nat) (l:List FuncD):sumF m l l.length=(l.map fun f=>ndE m f.body).sum:=by unfold sumF;rw [List.take_length]
theorem ndE_succ (m:Nat) (e:ExprD):ndE (m+1) e=1+sumF m e.funcs e.funcs.length+sumA m e.args e.args.length:=by rw [sumA_end,sumF_end];rfl
theorem ndE_leaf (m:Nat) {e:ExprD} (ha:e.args=[]) (hf:e.funcs=[]):ndE m e=1:=by
 cases m with
 | zero=>rfl
 | succ m=>rw [ndE_succ,ha,hf];rfl
theorem dpE_leaf (m:Nat) {e:ExprD} (ha:e.args=[]) (hf:e.funcs=[]):dpE m e:=by
 cases m with
 | zero=>exact ⟨ha,hf⟩
 | succ m=>exact ⟨by rw [ha];simp,by rw [hf];simp⟩
theorem funs_done (idB:ByteArray→Bool) (f:ExprD→Int→Int×Int) (Q:ExprD→Prop) (g:ExprD→Nat) (hf:∀ x s y,f x s=(y,0)→Q x∧y=s+g x) :
 ∀ (l:List FuncD) (seen:List ByteArray) (s y:Int),funsE idB f seen l s=(y,0)→(∀ u∈l,Q u.body)∧y=s+((l.map fun u=>g u.body).sum:Nat)
 | [],seen,s,y,h=>by
   simp only [funsE,Prod.mk.injEq] at h
   refine ⟨by simp,?_⟩
   simp
   omega
 | x::r,seen,s,y,h=>by
   simp only [funsE] at h
   split at h
   ·rename_i hh
    rw [Prod.mk.injEq] at h
    exact absurd h.2 hh
   ·split at h
    ·rename_i h1 hh
     rw [h] at hh
     exact absurd rfl hh
    ·rename_i h1 h2
     have h3:(f x.body s).2=0:=by simpa using h2
     obtain ⟨q1,q2⟩:=hf x.body s (f x.body s).1 (by rw [← h3])
     obtain ⟨i1,i2⟩:=funs_done idB f Q g hf r _ _ _ h
     refine ⟨fun u hu=>?_,?_⟩
     ·rcases List.mem_cons.1 hu with rfl | hu
      ·exact q1
      ·exact i1 u hu
     ·rw [List.map_cons,List.sum_cons,i2,q2];omega
theorem kids_done (m:Nat) (f:ExprD→Int→Int×Int) (Q:ExprD→Prop) (g:ExprD→Nat) (hf:∀ x s y,f x s=(y,0)→Q x∧y=s+g x) :
 ∀ (l:List ExprD) (s y:Int),(∀ u∈l,u.op=30→m≠0→Q u∧g u=1)→kidsE m f l s=(y,0)→(∀ u∈l,Q u)∧y=s+((l.map g).sum:Nat)
 | [],s,y,_,h=>by
   simp only [kidsE,Prod.mk.injEq] at h
   refine ⟨by simp,?_⟩
   simp
   omega
 | x::r,s,y,ha,h=>by
   simp only [kidsE] at h
   split at h
   ·rename_i hh
    rw [h] at hh
    exact absurd rfl hh
   ·rename_i h2
    have h3:(kidE m f x s).2=0:=by simpa using h2
    obtain ⟨i1,i2⟩:=kids_done m f Q g hf r _ _ (fun u hu=>ha u (List.mem_cons_of_mem _ hu)) h
    have hq:Q x∧(kidE m f x s).1=s+g x:=by
     unfold kidE at h3 ⊢
     split at h3
     ·rename_i ho
      rw [if_pos ho]
      split at h3
      ·exact absurd (show (9:Int)=0 from h3) (by decide)
      ·rename_i hm
       rw [if_neg hm]
       split at h3
       ·exact absurd (show (10:Int)=0 from h3) (by decide)
       ·rename_i hs
        rw [if_neg hs]
        obtain ⟨a1,a2⟩:=ha x (List.mem_cons_self ..) ho hm
        exact ⟨a1,by rw [a2];rfl⟩
     ·rename_i ho
      rw [if_neg ho]
      exact hf x s (f x s).1 (by rw [← h3])
    refine ⟨fun u hu=>?_,?_⟩
    ·rcases List.mem_cons.1 hu with rfl | hu
     ·exact hq.1
     ·exact i1 u hu
    ·rw [List.map_cons,List.sum_cons,i2,hq.2];omega
mutual
def smlE:ExprD→Prop
 | .mk _ _ _ l fs=>l.length≤65536∧smlL l∧smlF fs
def smlL:List ExprD→Prop
 | []=>True
 | a::r=>smlE a∧smlL r
def smlU:FuncD→Prop
 | .mk _ _ e=>smlE e
def smlF:List FuncD→Prop
 | []=>True
 | f::r=>smlU f∧smlF r
end
theorem smlE_iff {x:ExprD}:smlE x↔x.args.length≤65536∧smlL x.args∧smlF x.funcs:=by
 obtain ⟨op,nm,v,l,fs⟩:=x
 unfold smlE
 rfl
theorem smlL_get:∀ {l:List ExprD},smlL l→∀ i (h:i<l.length),smlE l[i]
 | a::r,h,0,_=>by unfold smlL at h;exact h.1
 | a::r,h,i+1,hi=>by unfold smlL at h;exact smlL_get h.2 i (by simpa using hi)
theorem smlF_get:∀ {l:List FuncD},smlF l→∀ i (h:i<l.length),smlE l[i].body
 | f::r,h,0,_=>by
   unfold smlF at h
   obtain ⟨nm,ps,e⟩:=f
   have:=h.1
   unfold smlU at this
   exact this
 | a::r,h,i+1,hi=>by unfold smlF at h;exact smlF_get h.2 i (by simpa using hi)
theorem smlL_of:∀ (l:List ExprD),(∀ i (h:i<l.length),smlE l[i])→smlL l
 | [],_=>by unfold smlL;trivial
 | a::r,h=>by
   unfold smlL
   exact ⟨h 0 (by simp),smlL_of r fun i hi=>h (i+1) (by simpa using hi)⟩
theorem smlF_of:∀ (l:List FuncD),(∀ i (h:i<l.length),smlE l[i].body)→smlF l
 | [],_=>by unfold smlF;trivial
 | f::r,h=>by
   unfold smlF
   refine ⟨?_,smlF_of r fun i hi=>h (i+1) (by simpa using hi)⟩
   obtain ⟨nm,ps,e⟩:=f
   unfold smlU
   exact h 0 (by simp)
theorem form_abs {x:ExprD} (h:formB x=true) {u:ExprD} (hu:u∈x.args) (ho:u.op=30):u.args=[]∧u.funcs=[]:=by
 obtain ⟨_,_,_,_,_,ha,_⟩:=of_decide_eq_true h
 obtain ⟨i,hi,rfl⟩:=List.getElem_of_mem hu
 unfold argsB at ha
 rw [List.all_eq_true] at ha
 have h1:=of_decide_eq_true (ha i (by simpa using hi))
 simp only [List.getD_eq_getElem?_getD,List.getElem?_eq_getElem hi,Option.getD_some] at h1
 obtain ⟨_,h2⟩:=h1 ho
 obtain ⟨_,_,_,h3,h4⟩:=of_decide_eq_true h2
 exact ⟨List.length_eq_zero_iff.1 h3,List.length_eq_zero_iff.1 h4⟩
theorem look_done (idB:ByteArray→Bool) (rgB:ExprD→Bool):∀ (m:Nat) (x:ExprD) (s y:Int),lookE idB rgB (m+1) x s=(y,0)→dpE m x∧y=s+ndE m x:=by
 intro m
 induction m with
 | zero =>
   intro x s y h'
   rw [lookE] at h'
   split at h'
   ·simp at h'
   split at h'
   ·simp at h'
   split at h'
   ·rename_i hc;simp at h';exact absurd h'.2 hc.2
   split at h'
   ·simp at h'
   split at h'
   ·simp at h'
   have base:∀ x s y,lookE idB rgB 0 x s=(y,0)→False∧y=s+(0:Nat):=fun x s y h=>by simp [lookE] at h
   split at h'
   ·rename_i hh;rw [h'] at hh;exact absurd rfl hh
   ·rename_i h2
    have h3:=Classical.not_not.1 h2
    obtain ⟨p,q,hpq⟩:∃ p q,funsE idB (lookE idB rgB 0) [] x.funcs (s+1)=(p,q):=⟨_,_,rfl⟩
    rw [hpq] at h3 h'
    obtain rfl:q=0:=h3
    obtain ⟨f1,f2⟩:=funs_done idB _ (fun _=>False) (fun _=>0) base x.funcs [] (s+1) p hpq
    have hf0:x.funcs=[]:=List.eq_nil_iff_forall_not_mem.2 fun u hu=>f1 u hu
    obtain ⟨k1,k2⟩:=kids_done 0 _ (fun _=>False) (fun _=>0) base x.args _ y (fun u hu _ h0=>absurd rfl h0) h'
    have ha0:x.args=[]:=List.eq_nil_iff_forall_not_mem.2 fun u hu=>k1 u hu
    refine ⟨⟨ha0,hf0⟩,?_⟩
    rw [k2,f2,ha0,hf0]
    simp [ndE]
 | succ m ih =>
   intro x s y h'
   rw [lookE] at h'
   split at h'
   ·simp at h'
   split at h'
   ·simp at h'
   split at h'
   ·rename_i hc;simp at h';exact absurd h'.2 hc.2
   split at h'
   ·simp at h'
   split at h'
   ·simp at h'
   split at h'
   ·rename_i hh;rw [h'] at hh;exact absurd rfl hh
   ·rename_i hfb _ _ _ h2
    have hfb':formB x=true:=by simpa using hfb
    have h3:=Classical.not_not.1 h2
    obtain ⟨p,q,hpq⟩:∃ p q,funsE idB (lookE idB rgB (m+1)) [] x.funcs (s+1)=(p,q):=⟨_,_,rfl⟩
    rw [hpq] at h3 h'
    obtain rfl:q=0:=h3
    obtain ⟨f1,f2⟩:=funs_done idB (lookE idB rgB (m+1)) (dpE m) (ndE m) ih x.funcs [] (s+1) p hpq
    obtain ⟨k1,k2⟩:=kids_done (m+1) (lookE idB rgB (m+1)) (dpE m) (ndE m) ih x.args _ y (fun u hu ho _=>by
     obtain ⟨a1,a2⟩:=form_abs hfb' hu ho
     exact ⟨dpE_leaf m a1 a2,ndE_leaf m a1 a2⟩) h'
    refine ⟨⟨k1,f1⟩,?_⟩
    rw [k2,f2]
    simp only [ndE]
    omega
end Go.Proofs.YticpebgjbfanpaaGreatDoor

/- What the program's check of expressions keeps: laid variables,sets of names,a counter behind a pointer. -/
namespace Go.Proofs.YticpebgjbfanpaaGreatDoor
open Go.RowKit
theorem Env.fb {w w':World} {pb B:Nat} (h:Env w) (hf:FB pb w w') (h4:4≤B) (hp:B≤pb) (hB:B≤w.heap.size):Env w':=by
 have hb:Below B w w':=hf.below hp hB
 obtain ⟨hu,⟨T,fr,hk⟩,m,hm⟩:=h
 refine ⟨⟨fun c hc=>?_,fun i hi=>?_⟩,⟨T,fr,?_⟩,m,?_⟩
 ·rw [hb.cell (show 2<B by omega)];exact hu.1 c hc
 ·have h1:=hu.2 i hi
  exact ⟨by rw [hb.cell (show 3<B by omega)];exact h1.1,by rw [hb.cell (show 3<B by omega)];exact h1.2⟩
 ·rw [hb.block _ (show 0<B by omega)];exact hk
 ·rw [hb.cell (show 1<B by omega)];exact hm
theorem FB.grown {pb b:Nat} {a w w':World} (h:FB pb a w) (hg:w.grownBy w' (some b)) (hb:a.heap.size≤b):FB pb a w' :=
 ⟨hg.os.trans h.os,hg.tape.trans h.tape,hg.output.trans h.output,Nat.le_trans h.size hg.size,fun k hk hn =>
  (hg.block k (Nat.lt_of_lt_of_le hk h.size) (fun e=>by cases e;omega)).trans (h.block k hk hn)⟩
theorem FB.cell {pb b o:Nat} {a c:World} (h:FB pb a c) (hb:b<a.heap.size) (hn:b≠pb):c.cell? ⟨b,o,none⟩=a.cell? ⟨b,o,none⟩:=by
 simp only [World.cell?]
 rw [h.block b hb hn]
theorem SetAt.fb {w w':World} {K E:TypeId} {b n pb:Nat} {l:List (List UInt8)} (h:SetAt w K E b n l) (hf:FB pb w w') (hn:b≠pb):SetAt w' K E b n l:=h.block (hf.block b h.lt hn)
theorem CellI.grown {w w':World} {pb b:Nat} {x:Int} (h:CellI w pb x) (hg:w.grownBy w' (some b)) (hn:pb≠b):CellI w' pb x:=(hg.block pb h.lt (fun e=>by cases e;exact hn rfl)).trans h
theorem cell_lt {w:World} {b o:Nat} {v:Value} (h:w.cell? ⟨b,o,none⟩=some v):b<w.heap.size:=World.block_lt_of_cell? w _ h
def strs (L:List ByteArray):List (List UInt8):=L.map (·.data.toList)
theorem strs_next {L:List ByteArray} {k:Nat} (h:k<L.length):strs (L.take (k+1))=strs (L.take k)++[L[k].data.toList]:=by
 unfold strs;rw [take_next h,List.map_append];rfl
theorem strs_mem (L:List ByteArray) (nm:ByteArray):decide (nm.data.toList∈strs L)=L.any fun s=>s.toList==nm.toList:=by
 rw [Bool.eq_iff_iff,decide_eq_true_eq,List.any_eq_true]
 unfold strs
 rw [List.mem_map]
 constructor
 ·rintro ⟨s,hs,he⟩
  exact ⟨s,hs,by rw [ByteArray.toList_eq,ByteArray.toList_eq,he];simp⟩
 ·rintro ⟨s,hs,he⟩
  refine ⟨s,hs,?_⟩
  rw [ByteArray.toList_eq,ByteArray.toList_eq] at he
  simpa using he
theorem paE_any8 {l:List ParD} {k:Nat} (h:k<l.length) (hi:identB l[k].name=true) (hs:decide (l[k].name.data.toList∈strs ((nmsP l).take k))=true):paE l k=8:=by
 unfold paE
 rw [parsE_step identB h,if_neg (by rw [hi];simp),if_pos (by rw [← strs_mem];exact hs)]
theorem paE_anyN {l:List ParD} {k:Nat} (h:k<l.length) (hi:identB l[k].name=true) (hs:decide (l[k].name.data.toList∈strs ((nmsP l).take k))=false):paE l k=paE l (k+1):=by
 unfold paE
 rw [parsE_step identB h,if_neg (by rw [hi];simp),if_neg (by rw [← strs_mem,hs];simp),take_next (by rw [nmsP_len];exact h),nmsP_get h]
theorem fuE_any8 {m:Nat} {l:List FuncD} {k:Nat} {s:Int} (h:k<l.length) (hi:identB l[k].name=true) (h8:¬ 8<l[k].params.length) (hp:paE l[k].params 0=0)
 (hs:decide (l[k].name.data.toList∈strs ((nmsF l).take k))=true):fuE m l k s=(s,8) :=
 fuE_head h (by decide) (by
  unfold headE
  rw [if_neg (by rw [hi];simp),if_neg h8,← paE_0,hp,if_neg (by simp),if_pos (by rw [← strs_mem];exact hs)])
theorem fuE_anyG {m:Nat} {l:List FuncD} {k:Nat} {s:Int} (h:k<l.length) (hi:identB l[k].name=true) (h8:¬ 8<l[k].params.length) (hp:paE l[k].params 0=0)
 (hs:decide (l[k].name.data.toList∈strs ((nmsF l).take k))=false):fuE m l k s=if (lkE m l[k].body s).2≠0 then lkE m l[k].body s else fuE m l (k+1) (lkE m l[k].body s).1:=by
 unfold fuE
 rw [funsE_step identB (lkE m) h,show headE identB ((nmsF l).take k) l[k].name l[k].params=0 from by
  unfold headE
  rw [if_neg (by rw [hi];simp),if_neg h8,← paE_0,hp,if_neg (by simp),if_neg (by rw [← strs_mem,hs];simp)],if_neg (by simp),take_next (by rw [nmsF_len];exact h),nmsF_get h]
def VisX (m:Nat):Prop:=∀ (x:ExprD) (w:World) (B N:Nat) (cs:List Value) (depth:Nat) (n:Int) (pb:Nat),depth+m=49→0≤n→n≤4096→N≤1073741824→4≤B→B≤w.heap.size→B≤pb→CellI w pb n→Env w→smlE x→ExprD.At w B N x cs →
 Calls Tryz.prog 71 #[.agg cs.toArray,.int .i64 depth,.pointer (some ⟨pb,0,none⟩)] w (ChkX pb (lkE m x n) w)
def FunsP (m:Nat):Prop:=∀ (l:List FuncD) (a:Option Addr) (c:Nat) (w:World) (B N:Nat) (depth:Nat) (n:Int) (pb db nb:Nat),depth+1+m=49→0≤n→n≤4096→N≤1073741824→4≤B→B≤w.heap.size→B≤pb→CellI w pb n→Env w →
 w.cell? ⟨db,0,none⟩=some (.int .i64 depth)→w.cell? ⟨nb,0,none⟩=some (.pointer (some ⟨pb,0,none⟩))→db≠pb→nb≠pb→l.length≤N→smlF l→FuncsAt w B N l a →
 Calls Tryz.prog 106 #[.slice a l.length c,.func (.func 107) #[] #[.pointer (some ⟨db,0,none⟩),.pointer (some ⟨nb,0,none⟩)]] w (ChkX pb (fnE m l n) w)
theorem chk_ret {pb:Nat} {r:Int×Int} {y z u:Int} {w w':World} (h:r=(y,z)) (hf:FB pb w w') (hu:CellI w' pb u) (hz:z=0→u=y):ChkX pb r w (.returned (.int .i64 z)) w':=by
 subst h;exact ⟨rfl,hf,u,hu,hz⟩
set_option maxRecDepth 100000 in
theorem body_p (m:Nat) (ih:VisX m) (x:ExprD) (w:World) (B N:Nat) (cs:List Value) (depth:Nat) (n:Int) (pb db nb:Nat) (hd:depth+1+m=49) (h0:0≤n) (h1:n≤4096) (hN:N≤1073741824) (h4:4≤B) (hB:B≤w.heap.size)
 (hp:B≤pb) (hc:CellI w pb n) (hE:Env w) (hdb:w.cell? ⟨db,0,none⟩=some (.int .i64 depth)) (hnb:w.cell? ⟨nb,0,none⟩=some (.pointer (some ⟨pb,0,none⟩))) (hs:smlE x) (hx:ExprD.At w B N x cs) :
 Calls Tryz.prog 107 #[.agg cs.toArray,.pointer (some ⟨db,0,none⟩),.pointer (some ⟨nb,0,none⟩)] w (ChkX pb (lkE m x n) w):=by
 have IH:=Hd ih
 have HX:=Hd hx
 have HE:=Hd hE
 have HC:=Hd hc
 have HS:=Hd hs
 have HD:=Hd hd
 have hdd:depth≤48:=by omega
 have H0:=Hd (show Below w.heap.size w (w.alloc (.cells cs.toArray 34)) from belowBox w _)
 have hl:=Hd (show (Tryz.prog.info? 34).map (·.size)=some cs.length by rw [hx.len];exact sizeE)
 have e1:(w.alloc (.cells cs.toArray 34)).cell? ⟨db,0,none⟩=some (.int .i64 depth):=by rw [H0.out.cell (cell_lt hdb)];exact hdb
 have e2:(w.alloc (.cells cs.toArray 34)).cell? ⟨nb,0,none⟩=some (.pointer (some ⟨pb,0,none⟩)):=by rw [H0.out.cell (cell_lt hnb)];exact hnb
 obtain ⟨y,z,hyz⟩:∃ a b,lkE m x n=(a,b):=⟨_,_,rfl⟩
 have HY:=Hd hyz
 clear hdb hnb hx ih hE hc hs hd hyz
 go_enter Tryz.func107,Tryz.ntmps107
 go_wp2_with (refine wpList_load_mid rfl 34 _ rfl w.heap.size 0 rfl cs _ (box_at w cs 34).range Tryz.underlying34 rfl hl.out ?_)
 refine (IH.out x _ B N cs (depth+1) n pb (by have:=HD.out;omega) h0 h1 hN h4 (Nat.le_trans hB H0.out.size) hp (HC.out.below H0.out) (HE.out.then H0.out) HS.out (HX.out.below (H0.out.mono hB))).mono ?_
 rintro e w1 ⟨rfl,hf,u,hu,hz⟩
 rw [HY.out] at hz ⊢
 have HF:=Hd ((FB.of_below (pb:=pb) H0.out).trans hf)
 have HU:=Hd hu
 have HZ:=Hd hz
 clear hf hu hz
 go_wp2_with fail
 go_ret
 exact chk_ret HY.out HF.out HU.out HZ.out
end Go.Proofs.YticpebgjbfanpaaGreatDoor
