/- The walker of module.used: a call, a node; it is a walker such as the generic walk asks for. -/
import Derived.Test.YticpebgjbfanpaaGreatDoorGA
import Derived.Test.YticpebgjbfanpaaGreatDoorKF
import Derived.Test.YticpebgjbfanpaaGreatDoorKB
namespace Go.Proofs.YticpebgjbfanpaaGreatDoor
open Go.RowKit Go.Maps
theorem ndC_no {x:ExprD} {d:ScD} (h:¬ (x.op=21∧findG d.gs x.name<0)):ndC x d=[]:=by unfold ndC;rw [if_neg h]
theorem ndC_yes {x:ExprD} {d:ScD} (h:x.op=21∧findG d.gs x.name<0):ndC x d=[x.name]:=by unfold ndC;rw [if_pos h]
def CalU (p:UsP) (l:List FuncD) (j:Nat) (L:List Nat) (nm:ByteArray) (w:World) (e:Ending) (w':World):Prop:=e=.returned (.tuple #[.string nm,.int .i64 0])∧StU p l j L w'∧FU p.m w w'
set_option maxRecDepth 100000 in
set_option maxHeartbeats 6400000 in
theorem call_u (p:UsP) (l:List FuncD) (j:Nat) (L:List Nat) (x:ExprD) (h21:x.op=21) (xs:List Value) (d:ScD) (cs:List Value) (w:World) (lo B B1 C N:Nat) (hC:C≤268435456) (hN:N≤268435456) (hB:B≤w.heap.size) (hlo:ULt p.m w.heap.size) (hE:StU p l j L w) (hg:GsOk d) (h:ScD.At w lo B C d cs) (hx:ExprD.At w B1 N x xs) :
 Calls Tryz.prog 82 #[.agg (wlkU p).toArray,.agg xs.toArray,.agg cs.toArray] w (CalU p l j ((ndC x d).foldl (pshU l) L) x.name w):=by
 obtain ⟨aa,fa,ac,fc,vs,hh⟩:=hx.has
 have c1:=hh.name
 have c15:=hh.args
 have hal:x.args.length≤N:=hh.own.2.2.1
 have hnm:x.name.size≤N:=hh.own.2.1
 have HD:=Hd h
 have HE:=Hd hE
 have HG:=Hd hg
 have HLO:=Hd hlo
 have hsz:=Hd (show (Tryz.prog.info? 87).map (·.size)=some cs.length by rw [h.len];kernel_rfl)
 have B0:=Hd (Box3.start w (wlkU p) xs cs 79 34 87)
 have X0:=Hd (show (((w.alloc (.cells (wlkU p).toArray 79)).alloc (.cells xs.toArray 34)).alloc (.cells cs.toArray 87)).heap[w.heap.size+1]?=some (.cells xs.toArray 34 (0,0)) by
  have h1:=heap_alloc_new (w.alloc (.cells (wlkU p).toArray 79)) (.cells xs.toArray 34)
  rw [World.size_alloc] at h1
  exact (heap_alloc_old _ _ (by rw [World.size_alloc,World.size_alloc];omega)).trans h1)
 have e1:=B0.out.r2.get0 c1
 have HNC:=Hd (show findG d.gs x.name<0→ndC x d=[x.name] from fun h=>ndC_yes ⟨h21,h⟩)
 have HNO:=Hd (show ¬ findG d.gs x.name<0→ndC x d=[] from fun h=>ndC_no (fun h'=>h h'.2))
 clear hh hx h hE hg h21 hlo
 go_enter Tryz.func82,Tryz.ntmps82
 go_wp2_with (refine wpList_load_mid rfl 87 _ rfl (w.heap.size+1+1) 0 rfl cs _ B0.out.r3.range Tryz.underlying87 rfl hsz.out ?_)
 refine (find_p d x.name cs _ lo B C hC (Nat.le_trans hB B0.out.low.size) (HD.out.keep (Kept.of_below (B0.out.low.mono hB)))).mono ?_
 rintro e u1 ⟨n,b,rfl,hfd,hmem,hb1⟩
 have HF:=Hd hfd
 have HM:=Hd hmem
 have X1:=Hd ((hb1.block _ (Array.getElem?_eq_some_iff.1 X0.out).1).trans X0.out)
 have B1:=Hd (B0.out.below hb1)
 clear hb1 e1 hfd hmem
 have e1:=B1.out.r2.get0 c1
 have e15:=B1.out.r2.get0 c15
 have w0:=B1.out.r1.get0 (j:=0) (v:=.func (.func 53) #[] #[.pointer (some ⟨p.ab,0,none⟩),.pointer (some ⟨p.ob,0,none⟩),.pointer (some ⟨p.tb,0,none⟩)]) rfl
 have w1:=B1.out.r1.get0 (j:=1) (v:=.func (.func 52) #[] #[]) rfl
 have HE1:=Hd (HE.out.keep (KeepT.of_below B1.out.low))
 have qr:=eql_rfun (.func 53) #[] #[.pointer (some ⟨p.ab,0,none⟩),.pointer (some ⟨p.ob,0,none⟩),.pointer (some ⟨p.tb,0,none⟩)] u1
 have qf:=eql_fre (.func 52) #[] #[] u1
 cases b
 case true =>
  obtain ⟨hcol,hn0⟩:=HG.out.find (HM.out rfl)
  have HCOL:=Hd hcol
  obtain ⟨m,hm⟩:=HE1.out.max
  have HSC:=Hd (show x.name.size<4294967281 by omega)
  have HMM:=Hd hm
  have HR:=Hd (HNO.out (by have h:=HF.out;rw [if_pos rfl] at h;omega))
  clear hm hcol
  by_cases hna:n=(x.args.length:Int)
  all_goals
   first
    | (have hna1:(n != (x.args.length:Int))=false:=by simpa using hna)
    | (have hna1:(n != (x.args.length:Int))=true:=by simpa using hna)
   first
    | (have hna2:(n==(x.args.length:Int))=true:=by simpa using hna)
    | (have hna2:(n==(x.args.length:Int))=false:=by simpa using hna)
   clear hna
   go_wp2_with fail
   refine (Tryz.strings_Contains x.name ⟨#[58,58]⟩ m u1 HSC.out HMM.out).mono ?_
   rintro e u2 ⟨rfl,rfl⟩
   rw [show Lib.contains x.name.data.toList (⟨#[58,58]⟩:ByteArray).data.toList=false from HCOL.out]
   go_wp2_with fail
   go_ret2
   exact ⟨rfl,by rw [HR.out];exact HE1.out,FUB.of_below B1.out.low⟩
 case false =>
  have HR:=Hd (HNC.out (by have h:=HF.out;rw [if_neg (by decide)] at h;omega))
  go_wp2_with fail
  refine (used2_p p l j x.name L u1 (by unfold maxLen;omega) HE1.out).mono ?_
  rintro e u2 ⟨rfl,hs2,hf2⟩
  have HS2:=Hd hs2
  have HF2:=Hd hf2
  have X2:=Hd (hf2.row X1.out (Array.getElem?_eq_some_iff.1 X1.out).1 (by decide) (HLO.out.mono (by omega)))
  have e15:=(cellsAt_row X2.out).get0 c15
  clear hs2 hf2 e1 w0 w1 qr qf
  go_wp2_with fail
  go_ret2
  exact ⟨rfl,by rw [HR.out];exact HS2.out,(FUB.of_below B1.out.low).go HF2.out B1.out.low.size⟩
set_option maxRecDepth 100000 in
set_option maxHeartbeats 6400000 in
theorem node_u (p:UsP) (l:List FuncD) (j:Nat) (L:List Nat) (x:ExprD) (xs:List Value) (d:ScD) (cs:List Value) (w:World) (lo B B1 C N:Nat) (hC:C≤268435456) (hN:N≤268435456) (hB:B≤w.heap.size) (hB1:B1≤w.heap.size) (hlo:ULt p.m w.heap.size) (hE:StU p l j L w) (hg:GsOk d) (h:ScD.At w lo B C d cs) (hx:ExprD.At w B1 N x xs) :
 Calls Tryz.prog 58 #[.agg (wlkU p).toArray,.agg xs.toArray,.agg cs.toArray] w (CalU p l j ((ndC x d).foldl (pshU l) L) x.name w):=by
 have HX:=Hd hx
 obtain ⟨aa,fa,ac,fc,vs,hh⟩:=hx.has
 have c0:=hh.op
 have c1:=hh.name
 have hnm:x.name.size≤N:=hh.own.2.1
 have HD:=Hd h
 have HE:=Hd hE
 have HG:=Hd hg
 have HLO:=Hd hlo
 have hsz:=Hd (show (Tryz.prog.info? 87).map (·.size)=some cs.length by rw [h.len];kernel_rfl)
 have hsx:=Hd (show (Tryz.prog.info? 34).map (·.size)=some xs.length by rw [hx.len];kernel_rfl)
 have hsw:=Hd (show (Tryz.prog.info? 79).map (·.size)=some (wlkU p).length by kernel_rfl)
 have B0:=Hd (Box3.start w (wlkU p) xs cs 79 34 87)
 have HE0:=Hd (HE.out.keep (KeepT.of_below B0.out.low))
 have e0:=B0.out.r2.get0 c0
 have e1:=B0.out.r2.get0 c1
 have w1:=B0.out.r1.get0 (j:=1) (v:=.func (.func 52) #[] #[]) rfl
 clear hh hx h hE hg hlo
 by_cases h21:x.op=21
 ·have H21:=Hd h21
  rw [h21] at e0
  clear h21
  go_enter Tryz.func58,Tryz.ntmps58
  go_wp2_with (first
   | (refine wpList_load_mid rfl 87 _ rfl (w.heap.size+1+1) 0 rfl cs _ B0.out.r3.range Tryz.underlying87 rfl hsz.out ?_)
   | (refine wpList_load_mid rfl 34 _ rfl (w.heap.size+1) 0 rfl xs _ B0.out.r2.range Tryz.underlying34 rfl hsx.out ?_)
   | (refine wpList_load_mid rfl 79 _ rfl (w.heap.size) 0 rfl (wlkU p) _ B0.out.r1.range Tryz.underlying79 rfl hsw.out ?_))
  refine (call_u p l j L x H21.out xs d cs _ lo w.heap.size w.heap.size C N hC hN B0.out.low.size (HLO.out.mono B0.out.low.size) HE0.out HG.out ((HD.out.keep (Kept.of_below (B0.out.low.mono hB))).mono hB (Nat.le_refl _)) (ExprD.At.mono hB1 _ (ExprD.At.below (B0.out.low.mono hB1) _ HX.out))).mono ?_
  rintro e u1 ⟨rfl,hs,hf1⟩
  have HS:=Hd hs
  have HF:=Hd ((FUB.of_below B0.out.low).go hf1 B0.out.low.size)
  clear hf1 hs
  go_wp2_with fail
  go_ret2
  exact ⟨rfl,HS.out,HF.out⟩
 ·have d21:(x.op==21)=false:=by simpa using h21
  have HR:=Hd (ndC_no (x:=x) (d:=d) (fun h=>h21 h.1))
  have HFB:=Hd (show FU p.m w (((w.alloc (.cells (wlkU p).toArray 79)).alloc (.cells xs.toArray 34)).alloc (.cells cs.toArray 87)) from FUB.of_below B0.out.low)
  clear h21
  by_cases h4:x.op=4
  ·rw [h4] at e0
   clear h4 d21
   obtain ⟨va,la,ga,vc,lc,gc,rfl,hv,_,_,k1,_⟩:=HD.out
   have HN:=Hd (hv.keep (Kept.of_below (B0.out.low.mono hB)))
   have hvl:d.vs.length≤1073741824:=by omega
   have e2:=B0.out.r3.get0 (j:=0) (v:=.slice va d.vs.length vc) rfl
   have qf:=eql_fre (.func 52) #[] #[] (((w.alloc (.cells (wlkU p).toArray 79)).alloc (.cells xs.toArray 34)).alloc (.cells [.slice va d.vs.length vc,.slice la d.ls.length lc,.slice ga d.gs.length gc].toArray 87))
   clear hv k1
   go_enter Tryz.func58,Tryz.ntmps58
   go_wp2_with fail
   refine (contains_p d.vs x.name va vc _ lo B hvl HN.out).mono ?_
   rintro e u1 ⟨rfl,rfl⟩
   cases hm:memB d.vs x.name
   ·clear hm
    go_wp2_with fail
    refine (used1_p x.name _).mono ?_
    rintro e u2 ⟨rfl,rfl⟩
    go_wp2_with fail
    go_ret2
    exact ⟨rfl,by rw [HR.out];exact HE0.out,HFB.out⟩
   ·clear hm
    go_wp2_with fail
    go_ret2
    exact ⟨rfl,by rw [HR.out];exact HE0.out,HFB.out⟩
  ·have d4:(x.op==4)=false:=by simpa using h4
   have qf:=eql_fre (.func 52) #[] #[] (((w.alloc (.cells (wlkU p).toArray 79)).alloc (.cells xs.toArray 34)).alloc (.cells cs.toArray 87))
   clear h4
   by_cases h27:x.op=27
   ·rw [h27] at e0
    clear h27 d4 d21
    go_enter Tryz.func58,Tryz.ntmps58
    go_wp2_with fail
    go_ret2
    exact ⟨rfl,by rw [HR.out];exact HE0.out,HFB.out⟩
   ·have d27:(x.op==27)=false:=by simpa using h27
    clear h27
    go_enter Tryz.func58,Tryz.ntmps58
    go_wp2_with fail
    go_ret2
    exact ⟨rfl,by rw [HR.out];exact HE0.out,HFB.out⟩
def gU (p:UsP) (l:List FuncD) (j:Nat):Gm:=⟨p.m,wlkU p,StU p l j,pshU l,fun _ d=>GsOk d⟩
theorem gU_ok (p:UsP) (l:List FuncD) (j:Nat):(gU p l j).Ok :=
 ⟨rfl,fun _ _ _ h hk=>StU.keep h hk,fun x xs d cs s w lo B B1 C N hC hN hB hB1 hul hlo hS hg hd hx=>node_u p l j s x xs d cs w lo B B1 C N hC hN hB (Nat.le_trans hB1 (StU.hsz hS)) (hul.mono hlo) hS hg hd hx⟩
end Go.Proofs.YticpebgjbfanpaaGreatDoor

/- The indices that module.used finds: plainly; the index of functions filled from the last to the first. -/
namespace Go.Proofs.YticpebgjbfanpaaGreatDoor
open Go.RowKit Go.Maps
theorem prg_all {l:List FuncD} {x:ExprD} (h:prgE l x=0):l.length≤256∧errE x=0∧visE (resE l) 47 x nilS=0∧∀ i (hi:i<l.length),headG ((nmsF l).take i) l[i]=0∧errE l[i].body=0∧visE (resE l) 47 l[i].body (nilS.par l[i].params)=0:=by
 unfold prgE at h
 split at h
 ·simp at h
 rename_i h1
 split at h
 ·rename_i h2;exact absurd h h2
 rename_i h2
 split at h
 ·rename_i h3;exact absurd h h3
 rename_i h3
 refine ⟨by omega,Classical.not_not.1 h3,h,fun i hi=>?_⟩
 have h4:=chF_all _ 0 rfl (Classical.not_not.1 h2) i (by omega) hi
 unfold fnC at h4
 split at h4
 ·rename_i h5;exact absurd h4 h5
 rename_i h5
 split at h4
 ·rename_i h6;exact absurd h4 h6
 rename_i h6
 exact ⟨Classical.not_not.1 h5,Classical.not_not.1 h6,h4⟩
theorem head_new {L:List ByteArray} {f:FuncD} (h:headG L f=0):L.any (fun s=>s.toList==f.name.toList)=false:=by
 unfold headG at h
 split at h
 ·cases h
 split at h
 ·rename_i hz;exact absurd h hz
 split at h
 ·cases h
 ·rename_i ha
  simpa using ha
theorem fn_own {l:List FuncD} {x:ExprD} (h:prgE l x=0) {i:Nat} (hi:i<l.length):fnIx l l[i].name=i:=by
 refine fnIx_hit hi (by simp) (fun j hj=>?_)
 have h1:=List.any_eq_false.1 (head_new ((prg_all h).2.2.2 i hi).1) l[j].name (by
  rw [List.mem_take_iff_getElem]
  exact ⟨j,by rw [nmsF_len];omega,by simp [nmsF]⟩)
 simpa using h1
theorem fn_nm {l:List FuncD} {s:ByteArray} {i:Nat} (hi:i<l.length) (h:fnIx l s=i):l[i].name=s:=by
 unfold fnIx at h
 split at h
 ·rename_i k hk
  obtain ⟨h1,h2,_⟩:=List.findIdx?_eq_some_iff_getElem.1 hk
  have:k=i:=by omega
  subst this
  exact bytes_inj (by rw [← ByteArray.toList_eq,← ByteArray.toList_eq];exact of_decide_eq_true (by simpa using h2))
 ·omega
theorem psh_mem {l:List FuncD} {L:List Nat} {s:ByteArray} {k:Nat}:k∈pshU l L s↔k∈L∨fnIx l s=k:=by
 cases hx:ixOf (strs (nmsF l)) s.data.toList with
 | none =>
   rw [pshU_none hx]
   have:=ix_fn_none hx
   constructor
   ·exact .inl
   ·rintro (h | h)
    ·exact h
    ·omega
 | some i =>
   have h1:=ix_fn_some hx
   by_cases hi:i∈L
   ·rw [pshU_old hx hi]
    constructor
    ·exact .inl
    ·rintro (h | h)
     ·exact h
     ·obtain rfl:k=i:=by omega
      exact hi
   ·rw [pshU_new hx hi,List.mem_append,List.mem_singleton]
    constructor
    ·rintro (h | h)
     ·exact .inl h
     ·exact .inr (by omega)
    ·rintro (h | h)
     ·exact .inl h
     ·exact .inr (by omega)
theorem psh_pre (l:List FuncD) (L:List Nat) (s:ByteArray):∃ E,pshU l L s=L++E:=by
 unfold pshU
 split
 ·split
  ·exact ⟨[],by simp⟩
  ·exact ⟨[_],rfl⟩
 ·exact ⟨[],by simp⟩
theorem pshs_mem {l:List FuncD}:∀ (c:List ByteArray) (L:List Nat) (k:Nat),k∈c.foldl (pshU l) L↔k∈L∨∃ s∈c,fnIx l s=k
 | [],L,k=>by simp
 | a::r,L,k=>by
   rw [List.foldl_cons,pshs_mem r,psh_mem]
   constructor
   ·rintro ((h | h) | ⟨s,hs,h⟩)
    ·exact .inl h
    ·exact .inr ⟨a,by simp,h⟩
    ·exact .inr ⟨s,by simp [hs],h⟩
   ·rintro (h | ⟨s,hs,h⟩)
    ·exact .inl (.inl h)
    ·rcases List.mem_cons.1 hs with rfl | hs
     ·exact .inl (.inr h)
     ·exact .inr ⟨s,hs,h⟩
theorem pshs_pre {l:List FuncD}:∀ (c:List ByteArray) (L:List Nat),∃ E,c.foldl (pshU l) L=L++E
 | [],L=>⟨[],by simp⟩
 | a::r,L=>by
   obtain ⟨E,h⟩:=psh_pre l L a
   obtain ⟨E2,h2⟩:=pshs_pre (l:=l) r (pshU l L a)
   exact ⟨E++E2,by rw [List.foldl_cons,h2,h,List.append_assoc]⟩
structure WorkI (l:List FuncD) (x:ExprD) (L:List Nat) (j:Nat):Prop where
 sound:∀ i∈L,∃ s,Reach l x s∧fnIx l s=i
 main:∀ s∈calM x,∀ i:Nat,fnIx l s=i→i∈L
 step:∀ i∈L.take j,∀ t∈calF l i,∀ k:Nat,fnIx l t=k→k∈L
theorem WorkI.start (l:List FuncD) (x:ExprD):WorkI l x ((calM x).foldl (pshU l) []) 0:=by
 refine ⟨fun i hi=>?_,fun s hs i hi=>(pshs_mem _ _ _).2 (.inr ⟨s,hs,hi⟩),fun i hi=>by simp at hi⟩
 rcases (pshs_mem _ _ _).1 hi with h | ⟨s,hs,h⟩
 ·cases h
 ·exact ⟨s,.main hs (by omega),h⟩
theorem WorkI.next {l:List FuncD} {x:ExprD} {L:List Nat} {j i:Nat} (h:WorkI l x L j) (hj:L[j]?=some i):WorkI l x ((calF l i).foldl (pshU l) L) (j+1):=by
 obtain ⟨E,hE⟩:=pshs_pre (l:=l) (calF l i) L
 obtain ⟨hjl,hji⟩:=List.getElem?_eq_some_iff.1 hj
 refine ⟨fun k hk=>?_,fun s hs k hk=>(pshs_mem _ _ _).2 (.inl (h.main s hs k hk)),fun k hk t ht m hm=>?_⟩
 ·rcases (pshs_mem _ _ _).1 hk with hk | ⟨s,hs,hk⟩
  ·exact h.sound k hk
  ·obtain ⟨s0,h1,h2⟩:=h.sound i (by rw [← hji];exact List.getElem_mem hjl)
   exact ⟨s,.step i h1 h2 hs (by omega),hk⟩
 ·rw [hE,List.take_append_of_le_length hjl,List.take_add_one,List.mem_append] at hk
  rcases hk with hk | hk
  ·exact (pshs_mem _ _ _).2 (.inl (h.step k hk t ht m hm))
  ·rw [hj] at hk
   simp at hk
   subst hk
   exact (pshs_mem _ _ _).2 (.inr ⟨t,ht,hm⟩)
theorem WorkI.done {l:List FuncD} {x:ExprD} {L:List Nat} (h:WorkI l x L L.length) (i:Nat):i∈L↔∃ s,Reach l x s∧fnIx l s=i:=by
 refine ⟨h.sound i,?_⟩
 rintro ⟨s,hr,hi⟩
 have key:∀ s,Reach l x s→∀ i:Nat,fnIx l s=i→i∈L:=by
  intro s hr
  induction hr with
  | main hs _=>exact h.main _ hs
  | step k _ hk ht _ ih=>exact h.step k (by rw [List.take_length];exact ih k hk) _ ht
 exact key s hr i hi
def IdxF (w:World) (b n:Nat) (L:List (List UInt8)) (k:Nat):Prop :=
 ∃ D:DataW Unit,w.ownsMap Tryz.prog 9 (plainElem Tryz.prog 3) b n D∧IsMap D∧(∀ s,Maps.has D (.string s)=(ixOf (L.drop k) s).isSome)∧∀ s i,ixOf (L.drop k) s=some i→D.atKey (.string s) (.lit (.int .i64 0))=.lit (.int .i64 ((k+i:Nat):Int))
theorem IdxF.made (w:World) (L:List (List UInt8)):IdxF (w.alloc (.map #[] 0)) w.heap.size 0 L L.length :=
 ⟨.map [],World.ownsMap_made _ _ _ _,isMap_empty,fun s=>by rw [List.drop_length];rfl,fun s i h=>by rw [List.drop_length] at h;cases h⟩
theorem IdxF.block {w w':World} {b n k:Nat} {L:List (List UInt8)} (h:IdxF w b n L k) (hb:w'.heap[b]?=w.heap[b]?):IdxF w' b n L k:=by
 obtain ⟨D,⟨es,clock,hh,r⟩,h2⟩:=h
 exact ⟨D,⟨es,clock,hb.trans hh,r⟩,h2⟩
theorem IdxF.lt {w:World} {b n k:Nat} {L:List (List UInt8)} (h:IdxF w b n L k):b<w.heap.size:=by
 obtain ⟨D,h1,_⟩:=h
 exact h1.lt
theorem IdxF.later {w w':World} {b n k:Nat} {L:List (List UInt8)} (h:IdxF w b n L k) (hb:Below w.heap.size w w'):IdxF w' b n L k:=h.block (hb.block _ h.lt)
theorem IdxF.done {w:World} {b n:Nat} {L:List (List UInt8)} (h:IdxF w b n L 0):IdxAt w b n L:=by
 obtain ⟨D,h1,h2,h3,h4⟩:=h
 exact ⟨D,h1,h2,fun s=>by rw [h3];rfl,fun s i hi=>by rw [h4 s i hi,Nat.zero_add]⟩
theorem ixOf_cons (x:List UInt8) (L:List (List UInt8)) (s:List UInt8):ixOf (x::L) s=if x=s then some 0 else (ixOf L s).map (·+1):=by
 unfold ixOf
 rw [List.findIdx?_cons]
 by_cases h:x=s
 ·subst h;simp
 ·simp [h]
theorem wp_put_idxf {w:World} {o:Oper} {a:Act} {K:Act→World→Prop} {Q:Exit→Act→World→Prop} (m x v:Operand) (hop:o.op=Op.mapUpdate 116 m x v)
 {b n k:Nat} {L:List (List UInt8)} (hm:a.eval m=.map (some b)) (h:IdxF w b n L (k+1)) (hn:n<maxLen) (hk:k<L.length) (hL:L.length≤65536) (s:ByteArray) (hs:L[k]=s.data.toList) (hx:a.eval x=.string s) (hv:a.eval v=.int .i64 (k:Int)) (hsz:s.size≤maxLen)
 (hK:∀ w',IdxF w' b (n+1) L k→w.grownBy w' (some b)→K (a.put o.dst undef) w'):o.wp Tryz.prog a w K Q:=by
 obtain ⟨D,h1,h2,h3,h4⟩:=h
 have hwf:(Lit.int .i64 (k:Int)).wf=true:=wf_small (by omega)
 obtain ⟨w',hrun,r1,r2⟩:=h1.update (string_keyed Tryz.underlying9) Tryz.underlying116 hn (keyOf_str Tryz.underlying9 hsz) (plainElem_int Tryz.underlying3 hwf)
 have hd:L.drop k=s.data.toList::L.drop (k+1):=by rw [List.drop_eq_getElem_cons hk,hs]
 have hr:IdxF w' b (n+1) L k:=by
  refine ⟨_,r1,h2.put _ _,fun q=>?_,fun q i hi=>?_⟩
  ·rw [hd,ixOf_cons]
   by_cases hq:s.data.toList=q
   ·subst hq
    rw [has_put_same h2 (isKeyLit_string _),if_pos rfl]
    rfl
   ·rw [has_put_other (by simpa using fun e=>hq e.symm),h3,if_neg hq]
    simp
  ·rw [hd,ixOf_cons] at hi
   by_cases hq:s.data.toList=q
   ·subst hq
    rw [if_pos rfl] at hi
    cases hi
    rw [atKey_put_same h2 (isKeyLit_string _),Nat.add_zero]
   ·rw [if_neg hq] at hi
    obtain ⟨i',hi',rfl⟩:=Option.map_eq_some_iff.1 hi
    rw [atKey_put_other (by simpa using fun e=>hq e.symm),h4 q i' hi',show k+1+i'=k+(i'+1) by omega]
 unfold Oper.wp
 simp [execOp,hop,hm,hx,hv,hrun,Result.andThen]
 exact hK w' hr r2
end Go.Proofs.YticpebgjbfanpaaGreatDoor
