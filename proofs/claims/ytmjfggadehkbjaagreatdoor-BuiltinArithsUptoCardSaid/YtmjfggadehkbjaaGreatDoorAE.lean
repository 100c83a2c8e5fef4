/- Sums of values but those of maps: builtin.plus, datakitref37.add. -/
import Derived.Test.YtmjfggadehkbjaaGreatDoorProg
import Derived.Test.YtmjfggadehkbjaaGreatDoorGA
import Derived.Test.YtmjfggadehkbjaaGreatDoorGB
import Derived.Test.YtmjfggadehkbjaaGreatDoorGC
import Derived.Test.YtmjfggadehkbjaaGreatDoorGD
import Derived.Test.YtmjfggadehkbjaaGreatDoorRow36
import Derived.Test.YtmjfggadehkbjaaGreatDoorGF
import Derived.Test.YtmjfggadehkbjaaGreatDoorXA
import Derived.Test.YtmjfggadehkbjaaGreatDoorXD
import Derived.Test.YtmjfggadehkbjaaGreatDoorXE
import Derived.Test.YtmjfggadehkbjaaGreatDoorXI
import Derived.Test.YtmjfggadehkbjaaGreatDoorXK
import Derived.Test.YtmjfggadehkbjaaGreatDoorAB
import Derived.Test.YtmjfggadehkbjaaGreatDoorAD
namespace Go.Proofs.YtmjfggadehkbjaaGreatDoor
open Go.RowKit
def putF:List (ByteArray×ValD)→ByteArray×ValD→List (ByteArray×ValD)
 | [],f=>[f]
 | g::r,f=>if g.1.data.toList=f.1.data.toList then (g.1,f.2)::r else g::putF r f
def mergeF (a b:List (ByteArray×ValD)):List (ByteArray×ValD):=b.foldl putF a
def mapD (l:List (ByteArray×ValD)):ValD:=.mk 7 false ⟨false,⟨#[]⟩,0⟩ ⟨0,0,0,0⟩ ⟨#[]⟩ [] [] l
def plusV (a b:ValD):ValD×Int :=
 if a.kind=0 then (b,0) else if b.kind=0 then (a,0) else if a.kind≠b.kind then (zeroD,6) else if a.kind=2 then numQ (addD a.num b.num) else if a.kind=4 then resD (textD (a.text++b.text)) else
 if a.kind=6 then resD (lisD (a.list++b.list)) else if a.kind=7 then resD (mapD (mergeF a.fields b.fields)) else (zeroD,6)
theorem resD_ok {v:ValD} (h:chkD v=0):resD v=(v,0):=by unfold resD;rw [if_pos h]
structure Tval (w W:World) (cs ds zs:List Value):Prop where
 below:Below w.heap.size w W
 one:RowT 30 W w.heap.size cs
 two:RowT 30 W (w.heap.size+1) ds
 res:RowT 30 W (w.heap.size+1+1) zs
theorem Tval.later {w W W':World} {cs ds zs:List Value} (h:Tval w W cs ds zs) (hb:Below W.heap.size W W'):Tval w W' cs ds zs:=⟨belowThen h.below hb,h.one.then hb,h.two.then hb,h.res.then hb⟩
theorem Tval.drew {w W:World} {cs ds zs:List Value} (h:Tval w W cs ds zs):Tval w W.drew cs ds zs:=⟨h.below.trans (drewB _),h.one,h.two,h.res⟩
theorem Tval.size {w W:World} {cs ds zs:List Value} (h:Tval w W cs ds zs):w.heap.size+3≤W.heap.size:=by have:=h.res.lt;omega
theorem Tval.put {w W:World} {cs ds zs:List Value} (h:Tval w W cs ds zs) (new:List Value):Tval w (W.setRow (w.heap.size+1+1) new.toArray) cs ds new :=
 ⟨below_setRow h.below (by omega) _,h.one.setRowOther (by omega) _,h.two.setRowOther (by omega) _,h.res.setRow new⟩
theorem tval (w:World) (cs ds zs:List Value):Tval w (((w.alloc (.cells cs.toArray 30)).alloc (.cells ds.toArray 30)).alloc (.cells zs.toArray 30)) cs ds zs:=by
 refine ⟨belowThen (belowThen (belowBox w _) (belowBox _ _)) (belowBox _ _),((RowT.new w 30 _).alloc _).alloc _,?_,?_⟩
 ·have h:=RowT.new (w.alloc (.cells cs.toArray 30)) 30 ds
  rw [World.size_alloc] at h
  exact h.alloc _
 ·have h:=RowT.new ((w.alloc (.cells cs.toArray 30)).alloc (.cells ds.toArray 30)) 30 zs
  rw [World.size_alloc,World.size_alloc] at h
  exact h
theorem lis_fits {n:Nat} {l m:List ValD} (h1:∀ x∈l,fitsV n x) (h2:∀ x∈m,fitsV n x):∀ x∈l++m,fitsV n x:=fun x hx=>(List.mem_append.1 hx).elim (h1 x) (h2 x)
theorem row_new {old new:List Value} (h:new.length=13) (h2:old.length=13):new=old.take 0++new++old.drop (0+new.length):=by
 rw [h,List.take_zero,List.nil_append,Nat.zero_add,List.drop_eq_nil_of_le (by omega),List.append_nil]
theorem wp_appVL {o:Oper} {tm:List Value} {df:List Deferred} {w:World} {K:Act→World→Prop} {Q:Exit→Act→World→Prop} (t:Nat) (hdst:o.dst=some t) (s x:Operand) (ho:o.op=.call { callee:=.builtin .append,args:=#[s,x],argTypes:=#[27,27] })
 (base:Nat) (v:Value) (n:Nat) (xs:List Value) (hs:(⟨tm.toArray,df⟩:Act).eval s=v) (hown:w.ownsRow base 30 13 v n xs) (B N:Nat) (w0:World) (l:List ValD) (lb:Option Addr) (c:Nat) (hx:(⟨tm.toArray,df⟩:Act).eval x=.slice lb l.length c) (h0:ValsAt w0 B N l lb) (hbw:Below B w0 w)
 (hn1:n≤4294967296) (hn2:l.length≤4294967296) (hbase:base≤w.heap.size)
 (h:∀ v' w' ns,w'.ownsRow base 30 13 v' (n+l.length) (xs++ns)→w.grownBy w' v.ownBlock→NewsV w0 B N l ns→K ⟨(tm.set t v').toArray,df⟩ w'):o.wp Tryz.prog ⟨tm.toArray,df⟩ w K Q :=
 wp_appV s x ho base v n xs hs hown B N w0 l lb c hx h0 hbw hn1 hn2 hbase fun v' w' ns k1 k2 k3=>by rw [hdst,put_list];exact h v' w' ns k1 k2 k3
end Go.Proofs.YtmjfggadehkbjaaGreatDoor

/- Fields put over others: datakitref37.place, datakitref37.put. -/
namespace Go.Proofs.YtmjfggadehkbjaaGreatDoor
open Go.RowKit Stb
def plcN (l:List (ByteArray×ValD)) (s:ByteArray):Option Nat:=l.findIdx? fun g=>g.1.toList==s.toList
def plcF (l:List (ByteArray×ValD)) (s:ByteArray):Int:=match plcN l s with | some i=>i | none=>-1
theorem plcN_some {l:List (ByteArray×ValD)} {s:ByteArray} {i:Nat} (hi:i<l.length) (h:(l[i].1.toList==s.toList)=true) (hn:∀ j (hj:j<l.length),j<i→(l[j].1.toList==s.toList)=false):plcN l s=some i:=by
 unfold plcN
 rw [List.findIdx?_eq_some_iff_getElem]
 exact ⟨hi,h,fun j hj=>by rw [hn j (by omega) hj];decide⟩
theorem plcN_none {l:List (ByteArray×ValD)} {s:ByteArray} (hn:∀ j (hj:j<l.length),(l[j].1.toList==s.toList)=false):plcN l s=none:=by
 unfold plcN
 rw [List.findIdx?_eq_none_iff]
 intro x hx
 obtain ⟨j,hj,rfl⟩:=List.getElem_of_mem hx
 exact hn j hj
theorem putF_none:∀ {l:List (ByteArray×ValD)} {f:ByteArray×ValD},plcN l f.1=none→putF l f=l++[f]
 | [],_,_=>rfl
 | g::r,f,h=>by
   have h2:(g.1.toList==f.1.toList)=false∧plcN r f.1=none:=by
    unfold plcN at h ⊢
    rw [List.findIdx?_cons] at h
    by_cases hg:(g.1.toList==f.1.toList)=true
    ·rw [if_pos hg] at h;cases h
    ·rw [if_neg hg] at h
     exact ⟨by simpa using hg,by simpa using h⟩
   have h3:¬ g.1.data.toList=f.1.data.toList:=by
    have:=h2.1
    rw [ByteArray.toList_eq,ByteArray.toList_eq] at this
    simpa using this
   show (if g.1.data.toList=f.1.data.toList then (g.1,f.2)::r else g::putF r f)=g::(r++[f])
   rw [if_neg h3,putF_none h2.2]
theorem putF_some:∀ {l:List (ByteArray×ValD)} {f:ByteArray×ValD} {i:Nat},plcN l f.1=some i→∃ h:i<l.length,putF l f=l.set i (l[i].1,f.2)
 | [],_,_,h=>by cases h
 | g::r,f,i,h=>by
   unfold plcN at h
   rw [List.findIdx?_cons] at h
   by_cases hg:(g.1.toList==f.1.toList)=true
   ·rw [if_pos hg] at h
    cases h
    have h3:g.1.data.toList=f.1.data.toList:=by
     rw [ByteArray.toList_eq,ByteArray.toList_eq] at hg
     simpa using hg
    exact ⟨by simp,by show (if g.1.data.toList=f.1.data.toList then (g.1,f.2)::r else g::putF r f)=_;rw [if_pos h3];rfl⟩
   ·rw [if_neg hg] at h
    have h3:¬ g.1.data.toList=f.1.data.toList:=fun e=>hg (by rw [ByteArray.toList_eq,ByteArray.toList_eq,e];simp)
    obtain ⟨j,hj,rfl⟩:∃ j,plcN r f.1=some j∧i=j+1:=by
     cases hq:r.findIdx? (fun g=>g.1.toList==f.1.toList) with
     | none=>rw [hq] at h;cases h
     | some j=>rw [hq] at h;exact ⟨j,hq,by simpa using h.symm⟩
    obtain ⟨h4,h5⟩:=putF_some hj
    exact ⟨by simpa using h4,by show (if g.1.data.toList=f.1.data.toList then (g.1,f.2)::r else g::putF r f)=_;rw [if_neg h3,h5];rfl⟩
theorem putF_len (l:List (ByteArray×ValD)) (f:ByteArray×ValD):(putF l f).length≤l.length+1:=by
 cases h:plcN l f.1 with
 | none=>rw [putF_none h];simp
 | some i=>obtain ⟨h1,h2⟩:=putF_some h;rw [h2];simp
theorem mergeF_take {a b:List (ByteArray×ValD)} {i:Nat} (hi:i<b.length):mergeF a (b.take (i+1))=putF (mergeF a (b.take i)) b[i]:=by
 unfold mergeF
 rw [List.take_succ_eq_append_getElem hi,List.foldl_append]
 rfl
theorem mergeF_len:∀ (b a:List (ByteArray×ValD)),(mergeF a b).length≤a.length+b.length
 | [],a=>by unfold mergeF;simp
 | f::r,a=>by
   have h1:=mergeF_len r (putF a f)
   have h2:=putF_len a f
   unfold mergeF at h1 ⊢
   simp only [List.foldl_cons,List.length_cons]
   omega
theorem flatR_cat (n m:Nat) (f g:Nat→List Value):flatR n f++flatR m g=flatR (n+m) (fun j=>if j<n then f j else g (j-n)):=by
 induction m with
 | zero=>rw [show flatR 0 g=[] from rfl,List.append_nil,Nat.add_zero];exact flatR_congr' fun k hk=>(if_pos hk).symm
 | succ m ih=>rw [flatR_s,← List.append_assoc,ih,show n+(m+1)=n+m+1 by omega,flatR_s,if_neg (by omega),show n+m-n=m by omega]
where
 flatR_congr' {n:Nat} {f g:Nat→List Value} (h:∀ k,k<n→f k=g k):flatR n f=flatR n g:=by
  unfold flatR
  rw [List.flatMap_def,List.flatMap_def]
  congr 1
  exact List.map_congr_left fun k hk=>h k (List.mem_range.1 hk)
def RowsB (w:World) (B H N:Nat) (l:List (ByteArray×ValD)) (a:Option Addr):Prop :=
 ∃ f,FldQ w B N l f∧((l=[]∧a=none)∨∃ ad:Addr,a=some ad∧(l=[]∨∃ b o,ad=⟨b,o,none⟩∧b<w.heap.size∧(b<B∨H≤b)∧∀ k,k<l.length→CellsAt w b (o+k * 14) (f k)))
theorem RowsB.of {w:World} {B H N:Nat} {l:List (ByteArray×ValD)} {a:Option Addr} (h:FieldsAt w B N l a) (hB:B≤w.heap.size):RowsB w B H N l a:=by
 by_cases hn:l=[]
 ·subst hn
  refine ⟨fun _=>[],fun k hk=>(by simp at hk),?_⟩
  cases a with
  | none=>exact .inl ⟨rfl,rfl⟩
  | some ad=>exact .inr ⟨ad,rfl,.inl rfl⟩
 ·obtain ⟨b,o,f,e,hlt,h1,h2⟩:=h.rows hn
  exact ⟨f,h1,.inr ⟨_,e,.inr ⟨b,o,rfl,by omega,.inl hlt,h2⟩⟩⟩
theorem RowsB.fields {w:World} {B H N:Nat} {l:List (ByteArray×ValD)} {a:Option Addr} (h:RowsB w B H N l a) (hB:B≤w.heap.size):FieldsAt w w.heap.size N l a:=by
 obtain ⟨f,h1,⟨rfl,rfl⟩ | ⟨ad,rfl,rfl | ⟨b,o,rfl,h2,h3,h4⟩⟩⟩:=h
 ·exact trivial
 ·exact trivial
 ·refine FieldsAt_of' h2 l o fun i hi=>?_
  obtain ⟨cs,c1,c2,c3⟩:=h1 i hi
  refine ⟨cs,c2,?_,c3.mono hB⟩
  rw [← c1]
  exact h4 i hi
theorem RowsB.later {w w':World} {B H N:Nat} {l:List (ByteArray×ValD)} {a:Option Addr} (h:RowsB w B H N l a) (hb:Below w.heap.size w w') (hB:B≤w.heap.size):RowsB w' B H N l a:=by
 obtain ⟨f,h1,h2⟩:=h
 refine ⟨f,h1.then hb hB,?_⟩
 rcases h2 with h2 | ⟨ad,e,h2 | ⟨b,o,rfl,h2,h3,h4⟩⟩
 ·exact .inl h2
 ·exact .inr ⟨ad,e,.inl h2⟩
 ·exact .inr ⟨_,e,.inr ⟨b,o,rfl,Nat.lt_of_lt_of_le h2 hb.size,h3,fun k hk=>(h4 k hk).below hb h2⟩⟩
theorem RowsB.setRow {w:World} {B H N g:Nat} {l:List (ByteArray×ValD)} {a:Option Addr} (h:RowsB w B H N l a) (h1:B≤g) (h2:g<H) (new:Array Value):RowsB (w.setRow g new) B H N l a:=by
 obtain ⟨f,hf,h3⟩:=h
 refine ⟨f,fun k hk=>?_,?_⟩
 ·obtain ⟨cs,c1,c2,c3⟩:=hf k hk
  exact ⟨cs,c1,c2,c3.below (below_setRow (Below.refl _ _) h1 _)⟩
 ·rcases h3 with h3 | ⟨ad,e,h3 | ⟨b,o,rfl,h3,h4,h5⟩⟩
  ·exact .inl h3
  ·exact .inr ⟨ad,e,.inl h3⟩
  ·refine .inr ⟨_,e,.inr ⟨b,o,rfl,by rw [setRow_size];exact h3,h4,fun k hk j hj=>?_⟩⟩
   have h6:=h5 k hk j hj
   have e2:(w.setRow g new).heap[b]?=w.heap[b]?:=setRow_other _ _ _ _ (by omega)
   rw [← h6]
   unfold World.cell?
   simp only [e2]
theorem RowsB.own {w:World} {B H N base n:Nat} {v:Value} {xs:List Value} {l:List (ByteArray×ValD)} {f:Nat→List Value} (h:w.ownsRow base 77 14 v n xs) (hl:l.length=n) (hxs:xs=flatR n f) (hf:FldQ w B N l f) (hH:H≤base):∃ a c,v=.slice a l.length c∧RowsB w B H N l a:=by
 subst hl
 subst hxs
 rcases h.2 with ⟨rfl,h5⟩ | ⟨q,cap,cur,rfl,h5,h6,h7,h8,h9,h10⟩
 ·exact ⟨none,0,by rw [h5],f,hf,.inl ⟨List.eq_nil_of_length_eq_zero h5,rfl⟩⟩
 ·have hR:RowT 77 w q (flatR l.length f++cur.toList.drop (l.length * 14)):=by
   unfold RowT
   rw [h6,← h10,List.take_append_drop]
  exact ⟨some ⟨q,0,none⟩,cap,rfl,f,hf,.inr ⟨_,rfl,.inr ⟨q,0,rfl,hR.lt,.inr (Nat.le_trans hH h5),fun k hk=>by
   rw [Nat.zero_add]
   exact cellsOfRange ((hf.rows hR).range hk)⟩⟩⟩
def SrcF (w:World) (m:Nat) (lb:Option Addr) (ns:List Value):Prop:=(m=0∧lb=none∧ns=[])∨∃ ad:Addr,lb=some ad∧ns.length=m * 14∧(∀ j u,ns[j]?=some u→w.cell? (ad.add j)=some u)∧∀ u∈ns,u.oneCell'=true
theorem RowsB.src {w:World} {B H N:Nat} {l:List (ByteArray×ValD)} {a:Option Addr} (h:RowsB w B H N l a):∃ f,FldQ w B N l f∧∀ w',Below w.heap.size w w'→SrcF w' l.length a (flatR l.length f):=by
 obtain ⟨f,h1,⟨rfl,rfl⟩ | ⟨ad,rfl,rfl | ⟨b,o,rfl,h2,h3,h4⟩⟩⟩:=h
 ·exact ⟨f,h1,fun w' _=>.inl ⟨rfl,rfl,rfl⟩⟩
 ·exact ⟨f,h1,fun w' _=>.inr ⟨ad,rfl,rfl,fun j u hu=>(by simp [flatR] at hu),fun u hu=>(by simp [flatR] at hu)⟩⟩
 ·refine ⟨f,h1,fun w' hb=>.inr ⟨_,rfl,flatR_len h1.len,fun j u hu=>?_,flat_one h1.one⟩⟩
  rw [Addr.add_mid]
  exact flat_cell h1.len (fun k hk=>(h4 k hk).below hb h2) j u hu
theorem SrcF.later {w w':World} {m:Nat} {b:Nat} {o:Nat} {ns:List Value} (h:SrcF w m (some ⟨b,o,none⟩) ns) (hb:Below w.heap.size w w') (hlt:b<w.heap.size):SrcF w' m (some ⟨b,o,none⟩) ns:=by
 rcases h with ⟨_,h,_⟩ | ⟨ad,e,h1,h2,h3⟩
 ·cases h
 ·cases e
  refine .inr ⟨_,rfl,h1,fun j u hu=>?_,h3⟩
  rw [← h2 j u hu]
  rw [Addr.add_mid]
  exact hb.cell hlt
theorem wp_appF {o:Oper} {a:Act} {w:World} {K:Act→World→Prop} {Q:Exit→Act→World→Prop} (s x:Operand) (ho:o.op=.call { callee:=.builtin .append,args:=#[s,x],argTypes:=#[28,28] })
 (base:Nat) (v:Value) (n:Nat) (xs:List Value) (hs:a.eval s=v) (hown:w.ownsRow base 77 14 v n xs) (m:Nat) (lb:Option Addr) (c:Nat) (ns:List Value) (hx:a.eval x=.slice lb m c) (h0:SrcF w m lb ns)
 (hn1:n≤4294967296) (hn2:m≤4294967296) (hbase:base≤w.heap.size)
 (h:∀ v' w',w'.ownsRow base 77 14 v' (n+m) (xs++ns)→w.grownBy w' v.ownBlock→K (a.put o.dst v') w'):o.wp Tryz.prog a w K Q:=by
 obtain ⟨z0,hz0s,hinfo⟩:=infoF
 obtain ⟨i0,hi,hz0,hz1,hz2⟩:=info_parts hinfo
 rcases h0 with ⟨rfl,rfl,rfl⟩ | ⟨ad,rfl,h1,h2,h3⟩
 ·have hrun:=run_append_nil (P:=Tryz.prog) w base 28 o.type 77 i0 14 Tryz.underlying28 hi v n xs hown c
  have hk:=h v w (by simpa using hown) ⟨rfl,rfl,rfl,Nat.le_refl _,fun _ _ _=>rfl⟩
  unfold Oper.wp
  simp [execOp,ho,resolve,invoke,builtin,hs,hx,hrun,Result.andThen]
  exact hk
 ·exact wp_append_own w s x 28 ho base 77 i0 (.agg z0) 14 184 Tryz.underlying28 hi hz0 hz1 hz2 hz0s (by decide) v n xs hs hown ad m c ns hx h1 h2 h3 (by unfold maxLen;omega) (by omega) hbase
   fun v' w' k1 k2 _=>h v' w' k1 k2
theorem wpList_appF {ops:Array Oper} {rest:List Oper} {o:Oper} {a:Act} {w:World} {Q:Exit→Act→World→Prop} (hgd:o.guard=none) (s x:Operand) (ho:o.op=.call { callee:=.builtin .append,args:=#[s,x],argTypes:=#[28,28] })
 (base:Nat) (v:Value) (n:Nat) (xs:List Value) (hs:a.eval s=v) (hown:w.ownsRow base 77 14 v n xs) (m:Nat) (lb:Option Addr) (c:Nat) (ns:List Value) (hx:a.eval x=.slice lb m c) (h0:SrcF w m lb ns)
 (hn1:n≤4294967296) (hn2:m≤4294967296) (hbase:base≤w.heap.size)
 (h:∀ v' w',w'.ownsRow base 77 14 v' (n+m) (xs++ns)→w.grownBy w' v.ownBlock→wpList Tryz.prog ops Q rest (a.put o.dst v') w'):wpList Tryz.prog ops Q (o::rest) a w :=
 wpList_plain hgd fun _ hK=>wp_appF s x ho base v n xs hs hown m lb c ns hx h0 hn1 hn2 hbase fun v' w' k1 k2=>hK _ _ (h v' w' k1 k2)
theorem flatR_val {n i:Nat} {f:Nat→List Value} {k:Value} {cs ds tl:List Value} (h:∀ k,k<n→(f k).length=14) (hi:i<n) (hf:f i=k::ds) (hc:cs.length=13) :
 flatR n (upd f i (k::cs))++tl=(flatR n f++tl).take (i * 14+1)++cs++(flatR n f++tl).drop (i * 14+1+cs.length):=by
 have hlen:=flatR_len h
 have hin:i * 14+14≤n * 14:=by have:=Nat.mul_le_mul_right 14 (show i+1≤n by omega);omega
 have hget:(flatR n f++tl)[i * 14]?=some k:=by
  rw [List.getElem?_append_left (by omega)]
  have:=flatR_get h hi (j:=0) (by decide)
  rw [Nat.add_zero,hf] at this
  exact this
 rw [flatR_set (tl:=tl) h (r:=k::cs) (by simp [hc]) hi,List.take_add_one,hget]
 simp [hc]
theorem own_upd {w:World} {base n i g cap:Nat} {f:Nat→List Value} {k:Value} {cs ds:List Value} (hown:w.ownsRow base 77 14 (.slice (some ⟨g,0,none⟩) n cap) n (flatR n f)) (h:∀ k,k<n→(f k).length=14) (hi:i<n) (hf:f i=k::ds) (hc:cs.length=13) :
 base≤g∧∃ old new:List Value,RowT 77 w g old∧new=old.take (i * 14+1)++cs++old.drop (i * 14+1+cs.length)∧i * 14+1+cs.length≤old.length∧(w.setRow g new.toArray).ownsRow base 77 14 (.slice (some ⟨g,0,none⟩) n cap) n (flatR n (upd f i (k::cs))):=by
 have hin:i * 14+14≤n * 14:=by have:=Nat.mul_le_mul_right 14 (show i+1≤n by omega);omega
 rcases hown.2 with ⟨h5,_⟩ | ⟨q,cap',cur,e,h5,h6,h7,h8,h9,h10⟩
 ·cases h5
 ·cases e
  have hR:RowT 77 w g (flatR n f++cur.toList.drop (n * 14)):=by
   unfold RowT
   rw [h6,← h10,List.take_append_drop]
  have hl:=flatR_len h
  have hl2:=flatR_len (n:=n) (f:=upd f i (k::cs)) (upd_len h (by simp [hc]))
  refine ⟨h5,_,_,hR,flatR_val h hi hf hc,by rw [List.length_append,hl];omega,?_⟩
  refine ⟨hl2,.inr ⟨g,cap,_,rfl,h5,(hR.setRow _),h7,h8,?_,?_⟩⟩
  ·simp only [List.size_toArray,List.length_append,hl2,List.length_drop,Array.length_toList]
   have:=Nat.mul_le_mul_right 14 h7
   omega
  ·simp only
   rw [← hl2,List.take_left]
theorem fldQ_upd {w:World} {B N i:Nat} {l:List (ByteArray×ValD)} {f:Nat→List Value} {cs:List Value} {v:ValD} (h:FldQ w B N l f) (hi:i<l.length) (hv:ValD.At w B N v cs):FldQ w B N (l.set i (l[i].1,v)) (upd f i (.string l[i].1::cs)):=by
 intro q hq0
 have hq:q<l.length:=by rw [List.length_set] at hq0;exact hq0
 by_cases c:q=i
 ·subst c
  obtain ⟨ds,c1,c2,c3⟩:=h q hq
  exact ⟨cs,by unfold upd;rw [if_pos rfl];simp,by simpa using c2,by simpa using hv⟩
 ·obtain ⟨ds,c1,c2,c3⟩:=h q hq
  have e:(l.set i (l[i].1,v))[q]'hq0=l[q]:=List.getElem_set_ne (fun h=>c h.symm) _
  rw [e]
  exact ⟨ds,by unfold upd;rw [if_neg c];exact c1,c2,c3⟩
theorem fldQ_snoc {w:World} {B N:Nat} {l:List (ByteArray×ValD)} {f:Nat→List Value} {cs:List Value} {k:ByteArray} {v:ValD} (h:FldQ w B N l f) (hk:k.size≤N) (hv:ValD.At w B N v cs):FldQ w B N (l++[(k,v)]) (fun j=>if j<l.length then f j else (.string k::cs)):=by
 intro q hq
 by_cases c:q<l.length
 ·obtain ⟨ds,c1,c2,c3⟩:=h q c
  have e:(l++[(k,v)])[q]=l[q]:=List.getElem_append_left c
  rw [e]
  exact ⟨ds,by simp only [c,if_true];exact c1,c2,c3⟩
 ·have hq2:q=l.length:=by simp at hq;omega
  subst hq2
  have e:(l++[(k,v)])[l.length]=(k,v):=by simp
  rw [e]
  exact ⟨cs,by simp,hk,hv⟩
theorem flatR_snoc (n:Nat) (f:Nat→List Value) (r:List Value):flatR n f++r=flatR (n+1) (fun j=>if j<n then f j else r):=by
 have:=flatR_cat n 1 f (fun _=>r)
 rw [show flatR 1 (fun _=>r)=r by simp [flatR]] at this
 rw [this]
def PlcR (z:Int) (w:World) (e:Ending) (w':World):Prop:=e=.returned (.int .i64 z)∧w'=w
theorem plc_ret {x z:Int} {w w':World} (h:x=z) (hw:w'=w):PlcR x w (.returned (.int .i64 z)) w':=by subst h;exact ⟨rfl,hw⟩
set_option maxRecDepth 100000 in
set_option maxHeartbeats 3200000 in
theorem place_r (l:List (ByteArray×ValD)) (s:ByteArray) (a:Option Addr) (c B N:Nat) (w:World) (hl:l.length≤4294967296) (hA:FieldsAt w B N l a) :
 Calls Tryz.prog 130 #[.slice a l.length c,.string s] w (PlcR (plcF l s) w):=by
 have HA:=Hd hA
 clear hA
 go_enter Tryz.func130,Tryz.ntmps130
 go_wp2_with fail
 go_simp
 go_loopw [5] (fun i wr=>∃ k:Nat,k≤l.length∧i=.int .i64 k∧Hid (∀ j (hj:j<l.length),j<k→(l[j].1.toList==s.toList)=false)∧w=wr) (fun i _=>l.length-(intOf i).toNat)
 case atStart=>exact ⟨0,by omega,rfl,Hd (fun j _ hj=>absurd hj (by omega)),rfl⟩
 case round =>
  obtain ⟨k,hk,rfl,HN,rfl⟩:=hrel
  by_cases hlt:k<l.length
  case neg =>
   have HR:=Hd (show plcF l s=-1 by unfold plcF;rw [plcN_none (fun j hj=>HN.out j hj (by omega))])
   go_wp2_with fail
   go_ret
   exact plc_ret HR.out rfl
  obtain ⟨b,o,f,rfl,hb,hf,hc⟩:=HA.out.rows (by intro h;rw [h] at hlt;simp at hlt)
  obtain ⟨nm,hnm⟩:∃ nm,l[k].1=nm:=⟨_,rfl⟩
  have d0:w.cell? ⟨b,o+k * 14,none⟩=some (.string nm):=by
   have h5:=hc k hlt 0 (by rw [hf.len k hlt];decide)
   obtain ⟨ys,e,_⟩:=hf k hlt
   rw [Nat.add_zero,e] at h5
   rw [h5,← hnm]
   rfl
  obtain ⟨x,hx⟩:∃ x,(nm.toList==s.toList)=x:=⟨_,rfl⟩
  have HX:=Hd (show (l[k].1.toList==s.toList)=x by rw [hnm];exact hx)
  clear hf hc hnm
  cases x
  case true =>
   have HR:=Hd (show plcF l s=(k:Int) by unfold plcF;rw [plcN_some hlt HX.out (fun j hj hjk=>HN.out j hj hjk)])
   go_wp2_with fail
   go_ret
   exact plc_ret HR.out rfl
  have HN2:=Hd (show ∀ j (hj:j<l.length),j<k+1→(l[j].1.toList==s.toList)=false from fun j hj hjk=>by
   by_cases he:j=k
   ·subst he;exact HX.out
   ·exact HN.out j hj (by omega))
  go_wp2_with fail
  go_roundw
  case rel=>exact ⟨k+1,by omega,by go_num,HN2,trivial⟩
  case measure=>simp [intOf];omega
end Go.Proofs.YtmjfggadehkbjaaGreatDoor

/- A field put over others: datakitref37.put. -/
namespace Go.Proofs.YtmjfggadehkbjaaGreatDoor
open Go.RowKit Stb
def PutR (B H N:Nat) (l:List (ByteArray×ValD)) (w:World) (e:Ending) (w':World):Prop:=∃ a c,e=.returned (.slice a l.length c)∧Below w.heap.size w w'∧RowsB w' B H N l a
theorem put_own {w:World} {B H N base n:Nat} {w0:World} {v:Value} {xs:List Value} {l:List (ByteArray×ValD)} {f:Nat→List Value} (h:w.ownsRow base 77 14 v n xs) (hl:l.length=n) (hxs:xs=flatR n f) (hf:FldQ w B N l f) (hH:H≤base) (hb:Below w0.heap.size w0 w):PutR B H N l w0 (.returned v) w:=by
 obtain ⟨a,c,rfl,h2⟩:=RowsB.own h hl hxs hf hH
 exact ⟨a,c,rfl,hb,h2⟩
set_option maxRecDepth 100000 in
set_option maxHeartbeats 3200000 in
theorem put_r (l:List (ByteArray×ValD)) (k:ByteArray) (v:ValD) (a:Option Addr) (c B H N:Nat) (w:World) (cs:List Value) (hl:l.length≤4294967296) (hk:k.size≤N) (hB:B≤w.heap.size) (hH:H≤w.heap.size) (hA:RowsB w B H N l a) (hv:ValD.At w B N v cs) :
 Calls Tryz.prog 74 #[.slice a l.length c,.agg (Value.string k::cs).toArray] w (PutR B H N (putF l (k,v)) w):=by
 have hcl:=hv.len
 obtain ⟨f,hf,hsrc⟩:=hA.src
 have HF:=Hd hf
 have HS:=Hd hsrc
 have HV:=Hd hv
 have HA:=Hd (hA.fields hB)
 obtain ⟨x,hx⟩:∃ x,x=Value.string k::cs:=⟨_,rfl⟩
 rw [← hx]
 have X14:=Hd (show x.length=14 by rw [hx,List.length_cons,hcl])
 have X1:=Hd (show ∀ u∈x,u.oneCell'=true by
  rw [hx]
  intro u hu
  rcases List.mem_cons.1 hu with rfl | hu
  ·rfl
  ·exact hv.oneCell u hu)
 have V1:=Hd hv.oneCell
 have hcs:=Hd (show (Tryz.prog.info? 30).map (·.size)=some cs.length by rw [hcl];exact sizeV)
 have HX:=Hd hx
 have R0:=Hd (RowT.new w 77 x)
 have k0:(w.alloc (.cells x.toArray 77)).cell? ⟨w.heap.size,0,none⟩=some (.string k):=R0.out.cell (by rw [hx];rfl)
 have HO:=Hd (show ((w.alloc (.cells x.toArray 77)).alloc (.cells #[] 77)).ownsRow (w.heap.size+1) 77 14 (.slice (some ⟨w.heap.size+1,0,none⟩) 0 0) 0 [] from by
  have h:=World.ownsRow_made (w.alloc (.cells x.toArray 77)) (e:=77) (size:=14) #[] 0 (Nat.le_refl _) (Nat.zero_le _) rfl
  rw [World.size_alloc] at h
  simpa using h)
 have H0:=Hd (belowThen (belowBox w (.cells x.toArray 77)) (belowBox (w.alloc (.cells x.toArray 77)) (.cells #[] 77)))
 have HZ:=Hd (show w.heap.size+1≤((w.alloc (.cells x.toArray 77)).alloc (.cells #[] 77)).heap.size by rw [World.size_alloc,World.size_alloc];omega)
 have HB0:=Hd (show Below (w.heap.size+1) (w.alloc (.cells x.toArray 77)) ((w.alloc (.cells x.toArray 77)).alloc (.cells #[] 77)) from (belowBox _ _).mono (by rw [World.size_alloc];omega))
 clear hf hsrc hv hA hx
 go_enter Tryz.func74,Tryz.ntmps74
 go_wp2_with ((with_reducible show wpList _ _ _ (⟨some 9,_,_,_,_,_⟩::_) _ _);refine wpList_appF rfl _ _ rfl (w.heap.size+1) _ 0 [] rfl HO.out l.length a c _ rfl (HS.out _ H0.out) (by omega) (by omega) HZ.out ?_)
 intro v1 w1 hown hgrow
 have HB1:=Hd (show Below (w.heap.size+1) (w.alloc (.cells x.toArray 77)) w1 from HB0.out.trans ((Below.refl _ _).grown hgrow HZ.out (by intro q hq;simp [Value.ownBlock] at hq;omega)))
 have hz1:w.heap.size+1≤w1.heap.size:=by have:=HB1.out.size;rw [World.size_alloc] at this;omega
 have HW:=Hd (belowThen (belowBox w (.cells x.toArray 77)) (HB1.out.mono (by rw [World.size_alloc];omega)))
 have R1:=Hd (R0.out.below HB1.out (by omega))
 have k1:w1.cell? ⟨w.heap.size,0,none⟩=some (.string k):=R1.out.cell (by rw [HX.out];rfl)
 have HOWN:=Hd (show w1.ownsRow (w.heap.size+1) 77 14 v1 l.length (flatR l.length f) by simpa using hown)
 have HF1:=Hd (HF.out.then HW.out hB)
 clear hown hgrow k0 HO H0 HB0 HZ
 go_wp2_with fail
 refine (place_r l k a c w.heap.size N w1 (by omega) (HA.out.below HW.out)).mono ?_
 rintro e w2 ⟨rfl,rfl⟩
 cases hp:plcN l k with
 | some i =>
   obtain ⟨hi,hput⟩:=putF_some (l:=l) (f:=(k,v)) hp
   have HPUT:=Hd hput
   have HFI:=Hd (show plcF l k=(i:Int) by unfold plcF;rw [hp])
   rw [HFI.out]
   obtain ⟨ds,hds,_,_⟩:=HF1.out i hi
   rcases HOWN.out.2 with ⟨_,h0⟩ | ⟨g,cap,cur,hv1,hg,_⟩
   ·omega
   subst hv1
   obtain ⟨_,old,new,hR,hnew,hfit,hown2⟩:=own_upd HOWN.out HF1.out.len hi hds hcl
   have HR:=Hd hR
   have HN:=Hd hnew
   have HFIT:=Hd hfit
   have HOWN2:=Hd hown2
   have V0:=Hd (show w2.rangeAt w.heap.size 1 cs from fun j u hu=>R1.out.cell (by rw [HX.out,Nat.add_comm];exact hu))
   clear hp hput hds hR hnew hfit hown2
   have hi2:((i:Int) ≥ 0):=by omega
   go_wp2_with (first
    | ((with_reducible show wpList _ _ _ (⟨some 19,_,_,_,_,_⟩::_) _ _);refine wpList_load_mid rfl 30 _ rfl w.heap.size 1 rfl cs _ V0.out Tryz.underlying30 rfl hcs.out ?_)
    | ((with_reducible show wpList _ _ _ (⟨none,.store 30 (.tmp 21) _,_,_,_,_⟩::_) _ _);refine wpList_store_at rfl 30 _ _ rfl g (i * 14+1) cs (by first | rfl | (simp;rfl) | simp) rfl 77 old new HR.out hcs.out HN.out HFIT.out V1.out ?_))
   go_ret
   refine put_own HOWN2.out (l:=putF l (k,v)) (by rw [HPUT.out];simp) rfl ?_ (by omega) (below_setRow HW.out (by omega) _)
   rw [HPUT.out]
   exact fldQ_upd (fun q hq=>by
    obtain ⟨ds,c1,c2,c3⟩:=HF.out q hq
    exact ⟨ds,c1,c2,c3.below ((below_setRow HW.out (by omega) _).mono hB)⟩) hi (HV.out.below ((below_setRow HW.out (by omega) _).mono hB))
 | none =>
   have HPUT:=Hd (putF_none (l:=l) (f:=(k,v)) hp)
   have HFI:=Hd (show plcF l k=-1 by unfold plcF;rw [hp])
   rw [HFI.out]
   clear hp
   go_wp2_with (first
    | ((with_reducible show wpList _ _ _ (⟨some 24,_,_,_,_,_⟩::_) _ _);refine wpList_load_mid rfl 77 _ rfl w.heap.size 0 rfl x _ R1.out.range Tryz.underlying77 rfl (sizeFLD14 X14.out) ?_)
    | ((with_reducible show wpList _ _ _ (⟨some 25,_,_,_,_,_⟩::_) _ _);refine wpList_rowsF rfl [x] x (by simp) 1 _ rfl rfl (by decide) (by decide) (by intro r hr;simp at hr;rw [hr];exact X14.out) (by rw [List.map_toArray];rfl) ?_)
    | ((with_reducible show wpList _ _ _ (⟨some 26,_,_,_,_,_⟩::_) _ _);refine wpList_appF rfl _ _ rfl (w.heap.size+1) v1 l.length _ rfl (HOWN.out.alloc _) 1 (some ⟨w2.heap.size,0,none⟩) 1 x rfl (.inr ⟨_,rfl,by rw [X14.out],new_cells w2 x _,X1.out⟩) (by omega) (by omega) (by rw [World.size_alloc];omega) ?_))
   intro v3 w3 hown3 hgrow3
   have HB3:=Hd (show Below (w.heap.size+1) w2 w3 from (belowBox' w2 _ hz1).grown hgrow3 (by rw [World.size_alloc];omega) (fun q hq=>(HOWN.out.lt q hq).1))
   have HOWN3:=Hd hown3
   clear hown3 hgrow3
   go_wp2_with fail
   go_ret
   have hb:=HW.out.trans (HB3.out.mono (by omega))
   refine put_own HOWN3.out (l:=putF l (k,v)) (by rw [HPUT.out];simp) (flatR_snoc _ _ _) ?_ (by omega) hb
   rw [HPUT.out,HX.out]
   exact fldQ_snoc (HF.out.then hb hB) hk (HV.out.below (hb.mono hB))
end Go.Proofs.YtmjfggadehkbjaaGreatDoor

/- Sums of other kinds; of maps, the reference's side. -/
namespace Go.Proofs.YtmjfggadehkbjaaGreatDoor
open Go.RowKit Stb
def mapR (l:List (ByteArray×ValD)) (a:Option Addr) (c:Nat):List Value:=[.int .i64 7,.bool false,.bool false,.string ⟨#[]⟩,.int .i64 0,.int .i64 0,.int .i64 0,.int .i64 0,.int .i64 0,.string ⟨#[]⟩,.slice none 0 0,.slice none 0 0,.slice a l.length c]
theorem mapD_at {w:World} {B N:Nat} {l:List (ByteArray×ValD)} {a:Option Addr} (c:Nat) (hl:l.length≤N) (h:FieldsAt w B N l a):ValD.At w B N (mapD l) (mapR l a c) :=
 ⟨none,none,a,0,0,c,rfl,⟨⟨by show (-9223372036854775808:Int)≤7;omega,by show (7:Int)≤_;omega⟩,i64_0,i64_0,i64_0,i64_0,i64_0,Nat.zero_le _,Nat.zero_le _,Nat.zero_le _,Nat.zero_le _,hl⟩,.inl rfl,trivial,h⟩
theorem mapR_one (l:List (ByteArray×ValD)) (a:Option Addr) (c:Nat):∀ v∈mapR l a c,v.oneCell'=true:=fun v hv=>by
 simp [mapR] at hv
 rcases hv with rfl | rfl | rfl | rfl | rfl | rfl | rfl | rfl<;>rfl
theorem put_rx (l:List (ByteArray×ValD)) (k:ByteArray) (v:ValD) (a:Option Addr) (c B H N:Nat) (w:World) (cs x:List Value) (hx:x=.string k::cs) (hl:l.length≤4294967296) (hk:k.size≤N) (hB:B≤w.heap.size) (hH:H≤w.heap.size) (hA:RowsB w B H N l a) (hv:ValD.At w B N v cs) :
 Calls Tryz.prog 74 #[.slice a l.length c,.agg x.toArray] w (PutR B H N (putF l (k,v)) w):=by
 subst hx
 exact put_r l k v a c B H N w cs hl hk hB hH hA hv
end Go.Proofs.YtmjfggadehkbjaaGreatDoor
