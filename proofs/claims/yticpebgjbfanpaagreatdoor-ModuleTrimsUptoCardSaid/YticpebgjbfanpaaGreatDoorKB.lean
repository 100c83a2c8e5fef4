/- The functions of a program that are used: a plain set, and when a worklist has found it. No program here. -/
import Derived.Test.YticpebgjbfanpaaGreatDoorKA
import Derived.Test.YticpebgjbfanpaaGreatDoorGZ
import Derived.Test.YticpebgjbfanpaaGreatDoorGA
import Derived.Test.YticpebgjbfanpaaGreatDoorHG
import Derived.Deep.AppendLies
namespace Go.Proofs.YticpebgjbfanpaaGreatDoor
open Go.RowKit
def calF (l:List FuncD) (k:Nat):List ByteArray:=clE 47 (l.getD k default).body (nilS.par (l.getD k default).params)
def calM (x:ExprD):List ByteArray:=clE 47 x nilS
inductive Reach (l:List FuncD) (x:ExprD):ByteArray→Prop
 | main {s:ByteArray}:s∈calM x→0≤fnIx l s→Reach l x s
 | step {s t:ByteArray} (k:Nat):Reach l x s→fnIx l s=k→t∈calF l k→0≤fnIx l t→Reach l x t
theorem Reach.fn {l:List FuncD} {x:ExprD} {s:ByteArray} (h:Reach l x s):0≤fnIx l s:=by
 cases h<;>assumption
theorem bytes_inj {a b:ByteArray} (h:a.data.toList=b.data.toList):a=b:=by
 have:a.data=b.data:=Array.toList_inj.1 h
 cases a;cases b
 simp_all
theorem mem_bytes {l:List ByteArray} {s:ByteArray}:s.data.toList∈l.map (·.data.toList)↔s∈l:=by
 constructor
 ·intro h
  obtain ⟨t,ht,he⟩:=List.mem_map.1 h
  rw [← bytes_inj he]
  exact ht
 ·exact fun h=>List.mem_map_of_mem h
theorem insR_mem' {l:List ByteArray} {s t:ByteArray}:t∈insR l s↔t=s∨t∈l:=by
 rw [← mem_bytes,insR_mem,mem_bytes]
 constructor
 ·rintro (h | h)
  ·exact .inl (bytes_inj h)
  ·exact .inr h
 ·rintro (h | h)
  ·exact .inl (by rw [h])
  ·exact .inr h
theorem insAll_mem' {L l:List ByteArray} {t:ByteArray}:t∈insAll l L↔t∈L∨t∈l:=by
 rw [← mem_bytes,insAll_mem,mem_bytes,mem_bytes]
theorem memB_mem {l:List ByteArray} {s:ByteArray}:memB l s=true↔s∈l:=by
 unfold memB
 rw [List.any_eq_true]
 constructor
 ·rintro ⟨t,ht,he⟩
  have:t=s:=bytes_inj (by rw [← ByteArray.toList_eq,← ByteArray.toList_eq];exact of_decide_eq_true (by simpa using he))
  rw [← this]
  exact ht
 ·exact fun h=>⟨s,h,by simp⟩
theorem insR_new {l:List ByteArray} {s:ByteArray} (h:memB l s=false):(insR l s).length=l.length+1:=by
 induction l with
 | nil=>rfl
 | cons x r ih =>
   have h1:(x.toList==s.toList)=false∧memB r s=false:=by
    unfold memB at h ⊢
    rw [List.any_cons,Bool.or_eq_false_iff] at h
    exact h
   unfold insR
   split
   ·simp [ih h1.2]
   ·split
    ·rename_i he
     have h2:=h1.1
     rw [ByteArray.toList_eq,ByteArray.toList_eq,he] at h2
     simp at h2
    ·simp
structure Work (l:List FuncD) (x:ExprD) (out op:List ByteArray):Prop where
 sorted:(out.map (·.data.toList)).Pairwise (·<·)
 sound:∀ s∈out,Reach l x s
 todo:∀ s∈op,0≤fnIx l s→Reach l x s
 main:∀ s∈calM x,0≤fnIx l s→s∈out∨s∈op
 step:∀ s∈out,∀ k:Nat,fnIx l s=k→∀ t∈calF l k,0≤fnIx l t→t∈out∨t∈op
 few:op.length≤4096 * (out.length+1)
theorem Work.start (l:List FuncD) (x:ExprD) {op:List ByteArray} (h:∀ t,t∈op↔t∈calM x) (hl:op.length≤4096):Work l x [] op :=
 ⟨by simp,fun _ h=>(List.not_mem_nil h).elim,fun s hs hf=>.main ((h s).1 hs) hf,fun s hs _=>.inr ((h s).2 hs),fun _ h=>(List.not_mem_nil h).elim,by simpa using hl⟩
theorem Work.pass {l:List FuncD} {x:ExprD} {out op:List ByteArray} {s:ByteArray} (h:Work l x out (op++[s])) (hs:fnIx l s<0∨s∈out):Work l x out op:=by
 have hb:∀ t,0≤fnIx l t→(t∈out∨t∈op++[s])→t∈out∨t∈op:=by
  intro t ht hq
  rcases hq with hq | hq
  ·exact .inl hq
  ·rcases List.mem_append.1 hq with hq | hq
   ·exact .inr hq
   ·rw [List.mem_singleton] at hq
    subst hq
    rcases hs with hs | hs
    ·omega
    ·exact .inl hs
 exact ⟨h.sorted,h.sound,fun t ht hf=>h.todo t (List.mem_append_left _ ht) hf,fun t ht hf=>hb t hf (h.main t ht hf),fun a ha k hk t ht hf=>hb t hf (h.step a ha k hk t ht hf),by have:=h.few;simp at this;omega⟩
theorem Work.take {l:List FuncD} {x:ExprD} {out op new:List ByteArray} {s:ByteArray} {k:Nat} (h:Work l x out (op++[s])) (hk:fnIx l s=k) (hm:memB out s=false) (hn:∀ t,t∈new↔t∈calF l k) (hl:new.length≤4096):Work l x (insR out s) (op++new):=by
 have hr:Reach l x s:=h.todo s (by simp) (by omega)
 have hb:∀ t,(t∈out∨t∈op++[s])→t∈insR out s∨t∈op++new:=by
  intro t hq
  rcases hq with hq | hq
  ·exact .inl (insR_mem'.2 (.inr hq))
  ·rcases List.mem_append.1 hq with hq | hq
   ·exact .inr (List.mem_append_left _ hq)
   ·rw [List.mem_singleton] at hq
    exact .inl (insR_mem'.2 (.inl hq))
 refine ⟨insR_sorted _ _ h.sorted,fun t ht=>?_,fun t ht hf=>?_,fun t ht hf=>hb t (h.main t ht hf),fun a ha j hj t ht hf=>?_,?_⟩
 ·rcases insR_mem'.1 ht with rfl | ht
  ·exact hr
  ·exact h.sound t ht
 ·rcases List.mem_append.1 ht with ht | ht
  ·exact h.todo t (List.mem_append_left _ ht) hf
  ·exact .step k hr hk ((hn t).1 ht) hf
 ·rcases insR_mem'.1 ha with rfl | ha
  ·obtain rfl:j=k:=by omega
   exact .inr (List.mem_append_right _ ((hn t).2 ht))
  ·exact hb t (h.step a ha j hj t ht hf)
 ·have h1:=h.few
  have h2:(insR out s).length=out.length+1:=insR_new hm
  rw [h2]
  simp at h1 ⊢
  omega
theorem Work.done {l:List FuncD} {x:ExprD} {out:List ByteArray} (h:Work l x out []) (s:ByteArray):s∈out↔Reach l x s:=by
 constructor
 ·exact h.sound s
 ·intro hr
  induction hr with
  | main hs hf=>exact (h.main _ hs hf).resolve_right (List.not_mem_nil)
  | step k _ hk ht hf ih=>exact (h.step _ ih k hk _ ht hf).resolve_right (List.not_mem_nil)
theorem nodup_le:∀ (a b:List (List UInt8)),a.Nodup→(∀ x∈a,x∈b)→a.length≤b.length
 | [],b,_,_=>Nat.zero_le _
 | x::r,b,hn,hs=>by
   obtain ⟨h1,h2⟩:=List.nodup_cons.1 hn
   have hx:=hs x (by simp)
   have h3:=nodup_le r (b.erase x) h2 (fun y hy=>(List.mem_erase_of_ne (fun e=>h1 (by rw [← e];exact hy))).2 (hs y (by simp [hy])))
   have h4:=List.length_erase_of_mem hx
   have h5:0<b.length:=List.length_pos_of_mem hx
   simp only [List.length_cons]
   omega
theorem fn_name {l:List FuncD} {s:ByteArray} (h:0≤fnIx l s):s∈l.map (·.name):=by
 unfold fnIx at h
 split at h
 ·rename_i i hi
  obtain ⟨h1,h2,_⟩:=List.findIdx?_eq_some_iff_getElem.1 hi
  have:l[i].name=s:=bytes_inj (by rw [← ByteArray.toList_eq,← ByteArray.toList_eq];exact of_decide_eq_true (by simpa using h2))
  rw [← this]
  exact List.mem_map_of_mem (List.getElem_mem h1)
 ·omega
theorem Work.len {l:List FuncD} {x:ExprD} {out op:List ByteArray} (h:Work l x out op):out.length≤l.length:=by
 have hn:(out.map (·.data.toList)).Nodup:=h.sorted.imp (fun hab he=>by rw [he] at hab;exact List.lt_irrefl _ hab)
 have:=nodup_le (out.map (·.data.toList)) ((l.map (·.name)).map (·.data.toList)) hn (fun s hs=>by
  obtain ⟨t,ht,rfl⟩:=List.mem_map.1 hs
  exact mem_bytes.2 (fn_name (h.sound t ht).fn))
 simpa using this
end Go.Proofs.YticpebgjbfanpaaGreatDoor

/- datakitref38.Used of an accepted program: the names of the functions that are used, in ascending order. -/
namespace Go.Proofs.YticpebgjbfanpaaGreatDoor
open Go.RowKit
theorem prg_errs {l:List FuncD} {x:ExprD} (h:prgE l x=0):∀ f∈l,errE f.body=0:=by
 intro f hf
 obtain ⟨i,hi,rfl⟩:=List.getElem_of_mem hf
 unfold prgE at h
 split at h
 ·simp at h
 split at h
 ·rename_i h2;exact absurd h h2
 rename_i h2
 have h3:=chF_all _ 0 rfl (Classical.not_not.1 h2) i (by omega) hi
 unfold fnC at h3
 split at h3
 ·rename_i h4;exact absurd h3 h4
 split at h3
 ·rename_i h4;exact absurd h3 h4
 ·rename_i h4;exact Classical.not_not.1 h4
def UsedL (l:List FuncD) (x:ExprD) (L:List ByteArray):Prop:=(L.map (·.data.toList)).Pairwise (·<·)∧∀ s,s∈L↔Reach l x s
theorem UsedL.len {l:List FuncD} {x:ExprD} {L:List ByteArray} (h:UsedL l x L):L.length≤l.length:=by
 have hn:(L.map (·.data.toList)).Nodup:=h.1.imp (fun hab he=>by rw [he] at hab;exact List.lt_irrefl _ hab)
 have:=nodup_le (L.map (·.data.toList)) ((l.map (·.name)).map (·.data.toList)) hn (fun s hs=>by
  obtain ⟨t,ht,rfl⟩:=List.mem_map.1 hs
  exact mem_bytes.2 (fn_name ((h.2 t).1 ht).fn))
 simpa using this
def UsdR (l:List FuncD) (x:ExprD) (w:World) (e:Ending) (w':World):Prop:=∃ (a:Option Addr) (c:Nat) (L:List ByteArray),e=.returned (.slice a L.length c)∧Hid (UsedL l x L)∧Hid (NmsAt w' 0 w'.heap.size L a)∧Below w.heap.size w w'
theorem wp_append_any {P:Program} {w:World} {o:Oper} {a:Act} {K:Act→World→Prop} {Q:Exit→Act→World→Prop} (s x:Operand) (t:TypeId)
 (ho:o.op=.call { callee:=.builtin .append,args:=#[s,x],argTypes:=#[t,t] })
 (base:Nat) (e:TypeId) (i:TypeInfo) (z:Value) (size bytes:Nat) (ht:P.underlying t=some (.slice e)) (hi:P.info? e=some i) (hz:i.zero=some z)
 (hsize:i.size=size) (hby:i.bytes=bytes) (hzs:z.cells.size=size) (hsz:0<size)
 (v:Value) (n:Nat) (xs:List Value) (hs:a.eval s=v) (hown:w.ownsRow base e size v n xs)
 (ad:Option Addr) (m c:Nat) (news:List Value) (hx:a.eval x=.slice ad m c) (hl:news.length=m * size) (hsrc:SrcAt w ad m news) (hm:m=0→ad=none) (h1:∀ u∈news,u.oneCell'=true)
 (h63:n+m≤maxLen) (hbytes:(n+m) * bytes≤140737488355328) (hbase:base≤w.heap.size)
 (h:∀ v' w',w'.ownsRow base e size v' (n+m) (xs++news)→w.grownBy w' v.ownBlock→(∀ g,v'.ownBlock=some g→v.ownBlock=some g∨w.heap.size≤g)→K (a.put o.dst v') w'):o.wp P a w K Q:=by
 cases ad with
 | none =>
   obtain rfl:=hsrc.1 rfl
   obtain rfl:news=[]:=List.length_eq_zero_iff.1 (by omega)
   have hrun:=run_append_nil (P:=P) w base t o.type e i size ht hi v n xs hown c
   unfold Oper.wp
   simp [execOp,ho,resolve,invoke,builtin,hs,hx,hrun,Result.andThen]
   exact h v w (by simpa using hown) ⟨rfl,rfl,rfl,Nat.le_refl _,fun _ _ _=>rfl⟩ (fun g hg=>.inl hg)
 | some ad =>
   refine wp_append_lies _ s x t ho base e i z size bytes ht hi hz hsize hby hzs hsz v n xs hs hown ad m c news hx hl (hsrc.2 ad rfl) h1 (Nat.pos_of_ne_zero (fun h0=>by cases hm h0)) h63 hbytes hbase _ rfl ?_
   intro g cap w' h2 h3 h4 _
   refine h _ w' h2 h3 (fun g' hg'=>?_)
   obtain rfl:g=g':=by injection hg'
   rcases h4 with h4 | h4
   ·exact .inl h4
   ·exact .inr (by omega)
theorem own_cut {w:World} {lo n c:Nat} {t:TypeId} {a:Option Addr} {xs:List Value} {y:Value} (h:w.ownsRow lo t 1 (.slice a (n+1) c) (n+1) (xs++[y])) (hx:xs.length=n):w.ownsRow lo t 1 (.slice a n c) n xs:=by
 rcases h.2 with ⟨_,h0⟩ | ⟨g,cap,cur,hv,hb,hg,hn,hm,hs,ht⟩
 ·omega
 ·injection hv with q1 q2 q3
  subst q1 q3
  refine ⟨by rw [hx];omega,.inr ⟨g,c,cur,rfl,hb,hg,by omega,hm,hs,?_⟩⟩
  have h2:=congrArg (List.take n) ht
  rw [List.take_take,List.take_append_of_le_length (by omega),List.take_of_length_le (Nat.le_of_eq hx)] at h2
  rw [← h2]
  congr 1
  omega
theorem own_grown {w w':World} {lo n:Nat} {t:TypeId} {sz:Nat} {v:Value} {xs:List Value} {row:Option Nat} (h:w.ownsRow lo t sz v n xs) (hg:w.grownBy w' row) (hne:∀ g,v.ownBlock=some g→row≠some g):w'.ownsRow lo t sz v n xs:=by
 refine ⟨h.1,?_⟩
 rcases h.2 with hv | ⟨g,cap,cur,hv,hl,hc,hr⟩
 ·exact .inl hv
 ·exact .inr ⟨g,cap,cur,hv,hl,(hg.block g (Array.getElem?_eq_some_iff.1 hc).1 (fun e=>hne g (by rw [hv];rfl) e.symm)).trans hc,hr⟩
def lenV:Value→Nat
 | .slice _ n _=>n
 | _=>0
def neV (v u:Value):Prop:=∀ g,v.ownBlock=some g→u.ownBlock≠some g
theorem op_len {x:ExprD} {d:ScD} (h:ndE 47 x≤4096):(insAll [] (clE 47 x d)).length≤4096:=by
 have h1:=insAll_len (clE 47 x d) []
 have h2:=clE_len 47 x d
 simp at h1
 omega
set_option maxRecDepth 100000 in
set_option maxHeartbeats 12800000 in
theorem used_r (l:List FuncD) (x:ExprD) (fa:Option Addr) (fc:Nat) (ms cs:List Value) (w:World) (B N:Nat) (hN:N≤1048576) (hB:B≤w.heap.size) (h0:prgE l x=0) (hln:l.length≤N) (hA:FuncsAt w B N l fa) (hx:ExprD.At w B N x ms) (hcs:cs=.slice fa l.length fc::ms) :
 Calls Tryz.prog 16 #[.agg cs.toArray] w (UsdR l x w):=by
 obtain ⟨i0,hi,hz0,hz1,hz2⟩:=info_parts infoSt
 have HI:=Hd hi
 have HZ0:=Hd hz0
 have HZ1:=Hd hz1
 have HZ2:=Hd hz2
 have hml:ms.length=17:=hx.len
 have HMS:=Hd (show (cs.drop 1).take 17=ms by rw [hcs];exact List.take_of_length_le (show ms.length≤17 by omega))
 have hlm:=Hd (show (Tryz.prog.info? 34).map (·.size)=some ms.length by rw [hml];exact sizeE)
 have HC0:=Hd (show cs[0]?=some (.slice fa l.length fc) by rw [hcs];rfl)
 have HA:=Hd hA
 have HX:=Hd hx
 have hz:=err_size (prg_main h0)
 have HD:=Hd (calls_all 47 x hz.1)
 have HND:=Hd hz.2
 have HFS:=Hd (fun f hf=>err_size (prg_errs h0 f hf))
 have RG:=Hd (RowT.new w 36 cs)
 have B1:=Hd (belowBox w (.cells cs.toArray 36))
 have hs1:=Hd (show (w.alloc (.cells cs.toArray 36)).heap.size=w.heap.size+1 from World.size_alloc _ _)
 clear hi hz0 hz1 hz2 hml hcs hA hx hz
 go_enter Tryz.func16,Tryz.ntmps16
 go_wp2_with ((with_reducible show wpList _ _ _ (⟨some 8,_,_,_,_,_⟩::_) _ _);refine wpList_load_mid rfl 34 _ rfl w.heap.size 1 rfl ms _ (RG.out.cells.part HMS.out) Tryz.underlying34 rfl hlm.out ?_)
 refine (HD.out _ B N ms nilS [.slice none 0 0,.slice none 0 0,.slice none 0 0] [] none 0 0 (w.heap.size+1) hN (by omega) (by have:=HND.out;simp;omega) (Nat.le_trans hB B1.out.size) (by have:=hs1.out;omega) (World.ownsRow_nil _ _ _ _) (fun _=>⟨rfl,rfl⟩) (ScD.At.nil _ _ _ _) (HX.out.below (B1.out.mono hB))).mono ?_
 rintro e w2 ⟨a1,c1,rfl,ho1,_,hb1⟩
 have HO1:=Hd ho1
 have HB2:=Hd (belowThen B1.out hb1)
 have RG2:=Hd (RG.out.then hb1)
 obtain ⟨op,hop⟩:∃ op,op=insAll [] (clE 47 x nilS):=⟨_,rfl⟩
 have HW0:=Hd (show Work l x [] op from Work.start l x (fun t=>by rw [hop,insAll_mem'];unfold calM;simp) (by rw [hop];exact op_len HND.out))
 rw [← hop] at HO1 ⊢
 clear ho1 hb1 hop HD
 go_wp2_with fail
 go_simp
 go_loopw [3,4] (fun vo vp wr=>∃ (ao ap:Option Addr) (co cp:Nat) (out op:List ByteArray),vo=.slice ao out.length co∧vp=.slice ap op.length cp∧Hid (Work l x out op)∧Hid (wr.ownsRow (w.heap.size+1) 9 1 (.slice ao out.length co) out.length (out.map .string))∧Hid (wr.ownsRow (w.heap.size+1) 9 1 (.slice ap op.length cp) op.length (op.map .string)) ∧
  Hid (neV (.slice ao out.length co) (.slice ap op.length cp))∧Hid (out=[]→ao=none∧co=0)∧Hid (RowT 36 wr w.heap.size cs)∧Hid (Below w.heap.size w wr)) (fun vo vp _=>(l.length-lenV vo) * 5000+lenV vp)
 case atStart=>exact ⟨none,a1,0,c1,[],op,rfl,rfl,HW0,Hd (World.ownsRow_nil _ _ _ _),HO1,Hd (fun g h=>by cases h),Hd (fun _=>⟨rfl,rfl⟩),RG2,HB2⟩
 case round =>
  clear HW0 HO1 RG2 HB2
  obtain ⟨ao,ap,co,cp,out,op,rfl,rfl,HW,HO,HP,HNE,HNL,RGr,HBr⟩:=hrel
  by_cases hn:op=[]
  case pos =>
   subst hn
   have HU:=Hd (show UsedL l x out from ⟨HW.out.sorted,HW.out.done⟩)
   have HNM:=Hd (own_nms (own_low HO.out (Nat.zero_le _)) (Nat.le_refl _)).2.2
   go_wp2_with fail
   go_ret
   exact ⟨ao,co,out,rfl,HU,HNM,HBr.out⟩
  obtain ⟨op',s,rfl⟩:∃ op' s,op=op'++[s]:=⟨op.dropLast,op.getLast hn,(List.dropLast_concat_getLast hn).symm⟩
  have hlen:(op'++[s]).length=op'.length+1:=by simp
  rw [hlen] at HP HNE ⊢
  clear hn
  obtain ⟨g,cap,hv,hg1,hg2⟩:=HP.out.form (by omega)
  injection hv with q1 q2 q3
  subst q1 q3
  have e0:wr.cell? ⟨g,op'.length,none⟩=some (.string s):=by
   have h:=HP.out.cells (g:=g) rfl op'.length (.string s) (by simp)
   rw [addr_add',Nat.zero_add] at h
   exact h
  have hpl:op'.length+1≤cp:=by
   have h:=(own_nms (l:=op'++[s]) (c:=cp) (by rw [hlen];exact HP.out) (Nat.le_refl _)).1
   rwa [hlen] at h
  have hol:=HW.out.len
  have hop:op'.length≤5000000000:=by
   have h:=HW.out.few
   rw [hlen] at h
   omega
  have hou:out.length≤1048576:=by omega
  have HPC:=Hd (show wr.ownsRow (w.heap.size+1) 9 1 (.slice (some ⟨g,0,none⟩) op'.length cp) op'.length (op'.map .string) from own_cut (y:=.string s) (by have h:=HP.out;rw [List.map_append] at h;exact h) (by simp))
  have HNC:=Hd (show neV (.slice ao out.length co) (.slice (some ⟨g,0,none⟩) op'.length cp) from fun j hj hh=>HNE.out j hj hh)
  have HOS:=Hd (own_nms HO.out (Nat.le_refl _))
  have p0:=RGr.out.cell HC0.out
  clear HP HNE hol
  go_wp2_with fail
  all_goals
   refine (function_r2 l s fa fc _ B N (by omega) (FuncsAt.below (HBr.out.mono hB) _ HA.out)).mono ?_
   rintro e w' ⟨rfl,rfl⟩
  all_goals
   have hrg:=fnIx_range l s
   obtain ⟨k,hk⟩:∃ k,fnIx l s=k:=⟨_,rfl⟩
   have HK:=Hd hk
   rw [hk] at hrg ⊢
   clear hk
   by_cases hk1:k=-1
   case pos =>
    subst hk1
    have HW':=Hd (HW.out.pass (.inl (by rw [HK.out];omega)))
    clear hrg
    go_wp2_with fail
    go_roundw
    case rel=>exact ⟨ao,some ⟨g,0,none⟩,co,cp,out,op',rfl,rfl,HW',HO,HPC,HNC,HNL,RGr,HBr⟩
    case measure=>simp [lenV]
   obtain ⟨n,rfl⟩:∃ n:Nat,k=n:=⟨k.toNat,by omega⟩
   have hnl:n<l.length:=by omega
   have hz:decide ((n:Int)<0)=false:=by simp
   clear hrg hk1
   go_wp2_with fail
   refine (has_r out s ao co _ (w.heap.size+1) _ (by omega) HOS.out.2.2).mono ?_
   rintro e w' ⟨rfl,rfl⟩
   cases hm:memB out s
   case true =>
    have HW':=Hd (HW.out.pass (.inr (memB_mem.1 hm)))
    clear hm
    go_wp2_with fail
    go_roundw
    case rel=>exact ⟨ao,some ⟨g,0,none⟩,co,cp,out,op',rfl,rfl,HW',HO,HPC,HNC,HNL,RGr,HBr⟩
    case measure=>simp [lenV]
   have HM:=Hd hm
   have HMM:=Hd hm
   clear hm
   go_wp2_with fail
   refine (insert_f out s ao co _ (w.heap.size+1) _ (by omega) HOS.out.1 HOS.out.2.1 (Nat.le_refl _) HOS.out.2.2 HNL.out HM.out).mono ?_
   rintro e w3 ⟨a3,c3,rfl,ho3,hb3⟩
   have HO3:=Hd ho3
   have HP3:=Hd (own_then HPC.out hb3)
   have hg3:=Hd hg2
   have RG3:=Hd (RGr.out.then hb3)
   have HB3:=Hd (belowThen HBr.out hb3)
   have HI3:=Hd (insR_ne out s)
   have hil:=Hd (insR_new HM.out)
   obtain ⟨out2,ho2⟩:∃ out2,out2=insR out s:=⟨_,rfl⟩
   have H2:=Hd ho2
   rw [← ho2] at HO3 HI3 hil ⊢
   clear ho3 ho2 p0 e0 HO HNC HNL HOS HM
   obtain ⟨b,p,rfl,hb,hget⟩:=HA.out.get (by intro h;simp [h] at hnl)
   obtain ⟨fs,g1,g2⟩:=hget n hnl
   obtain ⟨es,g3,g4⟩:=FuncD.At.bodyAt g1 g2
   have hpl2:l[n].params.length≤N:=by obtain ⟨_,_,_,gh⟩:=g2.has;exact gh.hp
   have HFR:=Hd (show ∀ u,Below w.heap.size w u→CellsAt u b (p+n * 19) fs from fun u hu=>g1.below (hu.mono hB) hb)
   have HER:=Hd (show ∀ u,Below w.heap.size w u→CellsAt u b (p+n * 19+2) es from fun u hu=>g3.below (hu.mono hB) hb)
   have hlf:=Hd (show (Tryz.prog.info? 82).map (·.size)=some fs.length by rw [g2.len];exact sizeFN)
   have hle:=Hd (show (Tryz.prog.info? 34).map (·.size)=some es.length by rw [g4.len];exact sizeE)
   have G2:=Hd g2
   have G4:=Hd g4
   have HF:=Hd (HFS.out l[n] (List.getElem_mem hnl))
   have HCF:=Hd (show calF l n=clE 47 l[n].body (nilS.par l[n].params) by unfold calF;rw [List.getD_eq_getElem?_getD,List.getElem?_eq_getElem hnl];rfl)
   clear g1 g2 g3 g4 hget
   go_wp2_with fail
   have q0:=RG3.out.cell HC0.out
   refine wp_region_held_drew (S:=fun u=>RowT 36 u w.heap.size cs∧Below w.heap.size w u) (by kernel_rfl) ⟨RG3.out.drew,belowThen HB3.out (drewW w3)⟩ (fun hHeld=>?_)
   refine' tk 0 (.slice (some ⟨g,0,none⟩) op'.length cp) rfl rfl (.inl ⟨by rfl,fun u hu=>(by go_simp)⟩) hHeld ?_
   simp only [sq1,sq0]
   refine' tk 1 (.pointer (some ⟨w.heap.size,0,none⟩)) rfl rfl (.inl ⟨by rfl,fun u hu=>(by go_simp)⟩) hHeld ?_
   simp only [sq1,sq0]
   refine' tk 2 (.slice (some ⟨b,p,none⟩) l.length fc) rfl rfl (.inl ⟨by rfl,fun u hu=>(by have hc:=hu.1.cell HC0.out;go_simp)⟩) hHeld ?_
   simp only [sq1,sq0]
   refine' tk 3 (.int .i64 n) rfl rfl (.inl ⟨by rfl,fun u hu=>(by go_simp)⟩) hHeld ?_
   simp only [sq1,sq0]
   refine' tk 4 (.pointer (some ⟨b,p+n * 19,none⟩)) rfl rfl (.inl ⟨by rfl,fun u hu=>(by go_simp)⟩) hHeld ?_
   simp only [sq1,sq0]
   refine' tk 5 (.pointer (some ⟨b,p+n * 19+2,none⟩)) rfl rfl (.inl ⟨by rfl,fun u hu=>(by go_simp)⟩) hHeld ?_
   simp only [sq1,sq0]
   refine' tk 6 _ rfl rfl (yieldsIf_load_mid (by kernel_rfl) 34 _ rfl (b) (p+n * 19+2) rfl es _ (fun u hu=>(HER.out _ hu.2).range) Tryz.underlying34 rfl hle.out) hHeld ?_
   simp only [sq1,sq0]
   refine' tk 7 (.agg #[.slice none 0 0,.slice none 0 0,.slice none 0 0]) rfl rfl (.inl ⟨by rfl,fun u hu=>(by go_simp)⟩) hHeld ?_
   simp only [sq1,sq0]
   refine' tk 8 (.pointer (some ⟨w.heap.size,0,none⟩)) rfl rfl (.inl ⟨by rfl,fun u hu=>(by go_simp)⟩) hHeld ?_
   simp only [sq1,sq0]
   refine' tk 9 (.slice (some ⟨b,p,none⟩) l.length fc) rfl rfl (.inl ⟨by rfl,fun u hu=>(by have hc:=hu.1.cell HC0.out;go_simp)⟩) hHeld ?_
   simp only [sq1,sq0]
   refine' tk 10 (.int .i64 n) rfl rfl (.inl ⟨by rfl,fun u hu=>(by go_simp)⟩) hHeld ?_
   simp only [sq1,sq0]
   refine' tk 11 (.pointer (some ⟨b,p+n * 19,none⟩)) rfl rfl (.inl ⟨by rfl,fun u hu=>(by go_simp)⟩) hHeld ?_
   simp only [sq1,sq0]
   refine' tk 12 _ rfl rfl (yieldsIf_load_mid (by kernel_rfl) 82 _ rfl (b) (p+n * 19) rfl fs _ (fun u hu=>(HFR.out _ hu.2).range) Tryz.underlying82 rfl hlf.out) hHeld ?_
   simp only [sq1,sq0]
   refine rd1 13 rfl (fun K hK=>?_)
   go_simp
   have hBD:Below B w w3.drew:=hHeld.2.mono hB
   refine (params_r l[n] fs nilS [.slice none 0 0,.slice none 0 0,.slice none 0 0] w3.drew 0 _ 0 N (by omega) (by omega) (Nat.le_refl _) (Nat.zero_le _) (ScD.At.nil _ _ _ _) (FuncD.At.mono (Nat.le_trans hB hHeld.2.size) _ (G2.out.below hBD))).mono ?_
   rintro e u1 ⟨d2,cs2,rfl,rfl,hs2,hb1⟩
   have S2:=Hd hs2
   have hT1:Below w3.heap.size w3 u1:=belowThen (drewW w3) hb1
   have hH1:RowT 36 u1 w.heap.size cs∧Below w.heap.size w u1:=⟨hHeld.1.then hb1,belowThen hHeld.2 hb1⟩
   refine hK.out _ _ hH1 (fun hHeld1=>?_)
   clear hK K hb1 hs2 hHeld hBD hH1
   refine rd1 14 rfl (fun K hK=>?_)
   go_simp
   refine (calls_all 47 l[n].body HF.out.1 u1 u1.heap.size N es (nilS.par l[n].params) cs2 [] none 0 (0+l[n].params.length) u1.heap.size hN (by omega) (by have:=HF.out.2;simp;omega) (Nat.le_refl _) (Nat.le_refl _) (World.ownsRow_nil _ _ _ _) (fun _=>⟨rfl,rfl⟩) S2.out ((G4.out.below (hHeld1.2.mono hB)).mono (Nat.le_trans hB hHeld1.2.size))).mono ?_
   rintro e u2 ⟨a4,c4,rfl,ho4,hn4,hb2⟩
   have HO4:=Hd ho4
   have HN4:=Hd hn4
   have hT2:Below w3.heap.size w3 u2:=belowThen hT1 hb2
   have hH2:RowT 36 u2 w.heap.size cs∧Below w.heap.size w u2:=⟨hHeld1.1.then hb2,belowThen hHeld1.2 hb2⟩
   obtain ⟨new,hnw⟩:∃ new,new=insAll [] (clE 47 l[n].body (nilS.par l[n].params)):=⟨_,rfl⟩
   have HNW:=Hd (show (∀ t,t∈new↔t∈calF l n)∧new.length≤4096 from ⟨fun t=>by rw [hnw,insAll_mem',HCF.out];simp,by rw [hnw];exact op_len HF.out.2⟩)
   rw [← hnw] at HO4 HN4 ⊢
   refine hK.out _ _ hH2 (fun hHeld2=>?_)
   clear hK K hb2 ho4 hn4 hHeld1 hnw S2 hH2
   refine rd1 15 rfl (fun K hK=>?_)
   rw [if_pos (by kernel_rfl)]
   refine wp_append_any _ _ 55 rfl (w.heap.size+1) 9 i0 (.string ⟨#[]⟩) 1 16 Tryz.underlying55 HI.out HZ0.out HZ1.out HZ2.out rfl (by decide) _ op'.length (op'.map .string) rfl (own_then HP3.out hT2) a4 new.length c4 (new.map .string) rfl (by simp) ((own_nms HO4.out (Nat.le_refl _)).2.2.src) (fun h=>(HN4.out (List.length_eq_zero_iff.1 h)).1) (nms_one _) (by have:=HNW.out.2;unfold maxLen;omega) (by have:=HNW.out.2;omega) (by have:=hHeld2.1.lt;omega) ?_
   intro v5 u5 ho5 hgr5 hat5
   have ho6:(∀ j,(Value.slice a3 out2.length c3).ownBlock=some j→¬ (Value.slice (some ⟨g,0,none⟩) op'.length cp).ownBlock=some j):=fun j hj=>by
    have h1:=(HO3.out.lt j hj).1
    have h2:=hg3.out
    intro h3
    injection h3 with h3
    have h4:g=j:=h3
    omega
   have HO5:=Hd (own_low (own_grown (own_then HO3.out hT2) hgr5 (fun j hj=>ho6 j hj)) (show w.heap.size+1≤_ from by have:=hg3.out;omega))
   have HNE5:=Hd (show neV (.slice a3 out2.length c3) v5 from fun j hj hv=>by
    rcases hat5 j hv with h | h
    ·exact ho6 j hj h
    ·have h1:=(HO3.out.lt j hj).2
     have h2:=hT2.size
     omega)
   have hH5:RowT 36 u5 w.heap.size cs∧Below w.heap.size w u5:=⟨(hgr5.block w.heap.size hHeld2.1.lt (fun e=>by injection e with e;have:w.heap.size=g:=e;omega)).trans hHeld2.1,hHeld2.2.grown hgr5 hHeld2.2.size (fun j hj=>by injection hj with hj;have:g=j:=hj;omega)⟩
   have HW':=Hd (show Work l x out2 (op'++new) from by rw [H2.out];exact HW.out.take HK.out HMM.out HNW.out.1 HNW.out.2)
   have ho7:u5.ownsRow (w.heap.size+1) 9 1 v5 (op'++new).length ((op'++new).map .string):=by
    rw [List.length_append,List.map_append]
    exact ho5
   obtain ⟨a6,c6,rfl,ho8⟩:=own_strs ho7 rfl rfl
   have HP6:=Hd ho8
   have hn6:(op'++new).length≤op'.length+4096:=by have:=HNW.out.2;simp;omega
   obtain ⟨op2,hop2⟩:∃ op2,op2=op'++new:=⟨_,rfl⟩
   rw [← hop2] at HP6 HW' HNE5 hn6 ⊢
   refine hK.out _ _ hH5 (fun hHeld5=>?_)
   clear hK K ho5 ho6 ho7 ho8 hgr5 hat5 hHeld2 hT2 hT1 hH5 hop2
   refine rd1 16 rfl (fun K hK=>?_)
   go_simp
   refine hK.out _ _ hHeld5 (fun hHeldx=>?_)
   clear hK K hHeldx
   refine wpAnyH_done (by kernel_rfl) ?_ _
   have RG5:=Hd hHeld5.1
   have HB5:=Hd hHeld5.2
   clear hHeld5 q0
   go_wp2_with fail
   go_roundw
   case rel=>exact ⟨a3,a6,c3,c6,out2,op2,rfl,rfl,HW',HO5,HP6,HNE5,Hd (fun h=>absurd h HI3.out),RG5,HB5⟩
   case measure =>
    have h1:=HW'.out.len
    have h2:=hil.out
    simp [lenV]
    omega
end Go.Proofs.YticpebgjbfanpaaGreatDoor
