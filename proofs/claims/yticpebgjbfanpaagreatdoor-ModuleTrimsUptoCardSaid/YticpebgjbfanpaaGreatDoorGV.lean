/- Names in a row, pairs in a row, scopes: how they lie in memory; appending to an own row. -/
import Derived.Test.YticpebgjbfanpaaGreatDoorGD
import Derived.Laws.AppendOwn
import Derived.Laws.Rows
import Derived.Test.YticpebgjbfanpaaGreatDoorHO
import Derived.Test.YticpebgjbfanpaaGreatDoorGA
import Derived.Sort.Walk0
import Derived.Test.YticpebgjbfanpaaGreatDoorGI
import Derived.Deep.RegionHeld3
namespace Go.Proofs.YticpebgjbfanpaaGreatDoor
open Go.RowKit
def Kept (lo B:Nat) (w w':World):Prop:=∀ k,lo≤k→k<B→w'.heap[k]?=w.heap[k]?
theorem Kept.of_below {lo B:Nat} {w w':World} (h:Below B w w'):Kept lo B w w':=fun k _ hk=>h.block k hk
theorem Kept.cell {lo B b o:Nat} {w w':World} (h:Kept lo B w w') (h1:lo≤b) (h2:b<B):w'.cell? ⟨b,o,none⟩=w.cell? ⟨b,o,none⟩:=by
 simp only [World.cell?]
 rw [h b h1 h2]
def NmsAt (w:World) (lo B:Nat) (l:List ByteArray) (a:Option Addr):Prop :=
 l=[]∨∃ b,a=some ⟨b,0,none⟩∧lo≤b∧b<B∧∀ (j:Nat) x,l[j]?=some x→w.cell? ⟨b,j,none⟩=some (.string x)
theorem NmsAt.keep {w w':World} {lo B:Nat} {l:List ByteArray} {a:Option Addr} (h:NmsAt w lo B l a) (hk:Kept lo B w w'):NmsAt w' lo B l a:=by
 rcases h with h | ⟨b,h1,h2,h3,h4⟩
 ·exact .inl h
 ·exact .inr ⟨b,h1,h2,h3,fun j x hx=>(hk.cell h2 h3).trans (h4 j x hx)⟩
theorem NmsAt.mono {w:World} {lo B B':Nat} {l:List ByteArray} {a:Option Addr} (h:NmsAt w lo B l a) (hB:B≤B'):NmsAt w lo B' l a:=by
 rcases h with h | ⟨b,h1,h2,h3,h4⟩
 ·exact .inl h
 ·exact .inr ⟨b,h1,h2,Nat.lt_of_lt_of_le h3 hB,h4⟩
theorem NmsAt.less {w:World} {lo lo' B:Nat} {l:List ByteArray} {a:Option Addr} (h:NmsAt w lo B l a) (hl:lo'≤lo):NmsAt w lo' B l a:=by
 rcases h with h | ⟨b,h1,h2,h3,h4⟩
 ·exact .inl h
 ·exact .inr ⟨b,h1,Nat.le_trans hl h2,h3,h4⟩
theorem NmsAt.get {w:World} {lo B:Nat} {l:List ByteArray} {a:Option Addr} (h:NmsAt w lo B l a) (hn:l≠[]):∃ b,a=some ⟨b,0,none⟩∧lo≤b∧b<B∧∀ (j:Nat) (hj:j<l.length),w.cell? ⟨b,j,none⟩=some (.string l[j]):=by
 rcases h with h | ⟨b,h1,h2,h3,h4⟩
 ·exact absurd h hn
 ·exact ⟨b,h1,h2,h3,fun j hj=>h4 j _ (List.getElem?_eq_getElem hj)⟩
def SgsAt (w:World) (lo B:Nat) (l:List (ByteArray×Int)) (a:Option Addr):Prop :=
 l=[]∨∃ b,a=some ⟨b,0,none⟩∧lo≤b∧b<B∧∀ (j:Nat) u,(l.flatMap fun x=>[Value.string x.1,.int .i64 x.2])[j]?=some u→w.cell? ⟨b,j,none⟩=some u
theorem SgsAt.keep {w w':World} {lo B:Nat} {l:List (ByteArray×Int)} {a:Option Addr} (h:SgsAt w lo B l a) (hk:Kept lo B w w'):SgsAt w' lo B l a:=by
 rcases h with h | ⟨b,h1,h2,h3,h4⟩
 ·exact .inl h
 ·exact .inr ⟨b,h1,h2,h3,fun j x hx=>(hk.cell h2 h3).trans (h4 j x hx)⟩
theorem SgsAt.mono {w:World} {lo B B':Nat} {l:List (ByteArray×Int)} {a:Option Addr} (h:SgsAt w lo B l a) (hB:B≤B'):SgsAt w lo B' l a:=by
 rcases h with h | ⟨b,h1,h2,h3,h4⟩
 ·exact .inl h
 ·exact .inr ⟨b,h1,h2,Nat.lt_of_lt_of_le h3 hB,h4⟩
theorem SgsAt.less {w:World} {lo lo' B:Nat} {l:List (ByteArray×Int)} {a:Option Addr} (h:SgsAt w lo B l a) (hl:lo'≤lo):SgsAt w lo' B l a:=by
 rcases h with h | ⟨b,h1,h2,h3,h4⟩
 ·exact .inl h
 ·exact .inr ⟨b,h1,Nat.le_trans hl h2,h3,h4⟩
theorem sgs_len (l:List (ByteArray×Int)):(l.flatMap fun x=>[Value.string x.1,.int .i64 x.2]).length=l.length * 2:=by
 induction l with
 | nil=>rfl
 | cons x r ih=>rw [List.flatMap_cons,List.length_append,ih,List.length_cons];simp;omega
theorem sgs_get (l:List (ByteArray×Int)):∀ (j:Nat) (h:j<l.length),(l.flatMap fun x=>[Value.string x.1,.int .i64 x.2])[j * 2]?=some (.string l[j].1)∧(l.flatMap fun x=>[Value.string x.1,.int .i64 x.2])[j * 2+1]?=some (.int .i64 l[j].2):=by
 induction l with
 | nil=>intro j h;simp at h
 | cons x r ih =>
   intro j h
   cases j with
   | zero=>simp
   | succ j =>
     have:=ih j (by simpa using h)
     rw [List.flatMap_cons]
     simp only [List.getElem_cons_succ]
     rw [show (j+1) * 2=j * 2+1+1 by omega]
     exact ⟨by simpa using this.1,by simpa using this.2⟩
theorem SgsAt.get {w:World} {lo B:Nat} {l:List (ByteArray×Int)} {a:Option Addr} (h:SgsAt w lo B l a) (hn:l≠[]) :
 ∃ b,a=some ⟨b,0,none⟩∧lo≤b∧b<B∧∀ (j:Nat) (hj:j<l.length),w.cell? ⟨b,j * 2,none⟩=some (.string l[j].1)∧w.cell? ⟨b,j * 2+1,none⟩=some (.int .i64 l[j].2):=by
 rcases h with h | ⟨b,h1,h2,h3,h4⟩
 ·exact absurd h hn
 ·exact ⟨b,h1,h2,h3,fun j hj=>⟨h4 _ _ (sgs_get l j hj).1,h4 _ _ (sgs_get l j hj).2⟩⟩
theorem infoSt:(Tryz.prog.info? 9).map (fun i=>(i.zero,i.size,i.bytes))=some (some (.string ⟨#[]⟩),1,16):=by kernel_rfl
theorem nms_own {w':World} {lo base:Nat} {v:Value} {l:List ByteArray} (h:w'.ownsRow base 9 1 v l.length (l.map .string)) (hlo:lo≤base):∃ a c,v=.slice a l.length c∧l.length≤c∧c≤maxLen∧NmsAt w' lo w'.heap.size l a:=by
 have h0:=h
 rcases h.2 with ⟨rfl,hz⟩ | ⟨g,cap,cur,rfl,hg,hh,hn,hm,hs,ht⟩
 ·obtain rfl:=List.length_eq_zero_iff.1 hz
  exact ⟨none,0,rfl,Nat.le_refl _,by unfold maxLen;omega,.inl rfl⟩
 ·refine ⟨_,_,rfl,hn,hm,.inr ⟨g,rfl,Nat.le_trans hlo hg,(Array.getElem?_eq_some_iff.1 hh).1,fun j x hx=>?_⟩⟩
  have:=h0.cells (g:=g) rfl j (.string x) (by rw [List.getElem?_map,hx];rfl)
  rw [addr_add',Nat.zero_add] at this
  exact this
theorem sgs_own {w':World} {lo base:Nat} {t:TypeId} {v:Value} {l:List (ByteArray×Int)} (h:w'.ownsRow base t 2 v l.length (l.flatMap fun x=>[Value.string x.1,.int .i64 x.2])) (hlo:lo≤base) :
 ∃ a c,v=.slice a l.length c∧l.length≤c∧c≤maxLen∧SgsAt w' lo w'.heap.size l a:=by
 have h0:=h
 rcases h.2 with ⟨rfl,hz⟩ | ⟨g,cap,cur,rfl,hg,hh,hn,hm,hs,ht⟩
 ·obtain rfl:=List.length_eq_zero_iff.1 hz
  exact ⟨none,0,rfl,Nat.le_refl _,by unfold maxLen;omega,.inl rfl⟩
 ·refine ⟨_,_,rfl,hn,hm,.inr ⟨g,rfl,Nat.le_trans hlo hg,(Array.getElem?_eq_some_iff.1 hh).1,fun j x hx=>?_⟩⟩
  have:=h0.cells (g:=g) rfl j x hx
  rw [addr_add',Nat.zero_add] at this
  exact this
def SrcAt (w:World) (a:Option Addr) (m:Nat) (news:List Value):Prop:=(a=none→m=0)∧∀ ad,a=some ad→∀ j u,news[j]?=some u→w.cell? (ad.add j)=some u
theorem NmsAt.src {w:World} {lo B:Nat} {l:List ByteArray} {a:Option Addr} (h:NmsAt w lo B l a):SrcAt w a l.length (l.map .string):=by
 rcases h with rfl | ⟨b,rfl,h2,h3,h4⟩
 ·exact ⟨fun _=>rfl,fun ad _ j u hu=>by simp at hu⟩
 ·refine ⟨fun h=>(by cases h),fun ad e j u hu=>?_⟩
  cases e
  rw [List.getElem?_map] at hu
  obtain ⟨x,hx,rfl⟩:=Option.map_eq_some_iff.1 hu
  rw [addr_add',Nat.zero_add]
  exact h4 j x hx
theorem SgsAt.src {w:World} {lo B:Nat} {l:List (ByteArray×Int)} {a:Option Addr} (h:SgsAt w lo B l a):SrcAt w a l.length (l.flatMap fun x=>[Value.string x.1,.int .i64 x.2]):=by
 rcases h with rfl | ⟨b,rfl,h2,h3,h4⟩
 ·exact ⟨fun _=>rfl,fun ad _ j u hu=>by simp at hu⟩
 ·refine ⟨fun h=>(by cases h),fun ad e j u hu=>?_⟩
  cases e
  rw [addr_add',Nat.zero_add]
  exact h4 j u hu
theorem src_new (w:World) (cs:List Value) (t:TypeId) (m:Nat):SrcAt (w.alloc (.cells cs.toArray t)) (some ⟨w.heap.size,0,none⟩) m cs:=by
 refine ⟨fun h=>(by cases h),fun ad e j u hu=>?_⟩
 cases e
 rw [addr_add',World.cell?_alloc_new]
 simpa using hu
theorem run_append_nil {P:Program} (w:World) (base:Nat) (t ty e:TypeId) (i:TypeInfo) (size:Nat) (ht:P.underlying t=some (.slice e)) (hi:P.info? e=some i)
 (v:Value) (n:Nat) (xs:List Value) (hown:w.ownsRow base e size v n xs) (c:Nat):(Builtin.append_ #[t,t] ty #[v,.slice none 0 c]).run P w=.ok v w:=by
 rcases hown.2 with ⟨rfl,rfl⟩ | ⟨g,cap,cur,rfl,_,_,hnc,_⟩
 ·simp [Builtin.append_,run_underlying ht,sizeOf,typeInfo,hi,Builtin.lenOf,Builtin.firstCells]
 ·simp [Builtin.append_,run_underlying ht,sizeOf,typeInfo,hi,Builtin.lenOf,Builtin.firstCells,hnc,storeCells]
theorem wpList_append_nil {P:Program} {w:World} {ops:Array Oper} {rest:List Oper} {o:Oper} {a:Act} {Q:Exit→Act→World→Prop} (hgd:o.guard=none) (s x:Operand) (t:TypeId)
 (ho:o.op=.call { callee:=.builtin .append,args:=#[s,x],argTypes:=#[t,t] })
 (base:Nat) (e:TypeId) (i:TypeInfo) (size:Nat) (ht:P.underlying t=some (.slice e)) (hi:P.info? e=some i)
 (v:Value) (n:Nat) (xs:List Value) (hs:a.eval s=v) (hown:w.ownsRow base e size v n xs) (c:Nat) (hx:a.eval x=.slice none 0 c)
 (h:wpList P ops Q rest (a.put o.dst v) w):wpList P ops Q (o::rest) a w:=by
 refine wpList_plain hgd fun K hK=>?_
 have hrun:=run_append_nil (P:=P) w base t o.type e i size ht hi v n xs hown c
 unfold Oper.wp
 simp [execOp,ho,resolve,invoke,builtin,hs,hx,hrun,Result.andThen]
 exact hK _ _ h
theorem wpList_append_src {P:Program} {w:World} {ops:Array Oper} {rest:List Oper} {o:Oper} {a:Act} {Q:Exit→Act→World→Prop} (hgd:o.guard=none) (s x:Operand) (t:TypeId)
 (ho:o.op=.call { callee:=.builtin .append,args:=#[s,x],argTypes:=#[t,t] })
 (base:Nat) (e:TypeId) (i:TypeInfo) (z:Value) (size bytes:Nat) (ht:P.underlying t=some (.slice e)) (hi:P.info? e=some i) (hz:i.zero=some z)
 (hsize:i.size=size) (hby:i.bytes=bytes) (hzs:z.cells.size=size) (hsz:0<size)
 (v:Value) (n:Nat) (xs:List Value) (hs:a.eval s=v) (hown:w.ownsRow base e size v n xs)
 (ad:Option Addr) (m c:Nat) (news:List Value) (hx:a.eval x=.slice ad m c) (hl:news.length=m * size) (hsrc:SrcAt w ad m news) (h1:∀ u∈news,u.oneCell'=true)
 (h63:n+m≤maxLen) (hbytes:(n+m) * bytes≤140737488355328) (hbase:base≤w.heap.size)
 (h:∀ v' w',w'.ownsRow base e size v' (n+m) (xs++news)→w.grownBy w' v.ownBlock→wpList P ops Q rest (a.put o.dst v') w'):wpList P ops Q (o::rest) a w:=by
 cases ad with
 | none =>
   obtain rfl:=hsrc.1 rfl
   obtain rfl:news=[]:=List.length_eq_zero_iff.1 (by omega)
   refine wpList_append_nil hgd s x t ho base e i size ht hi v n xs hs hown c hx ?_
   exact h v w (by simpa using hown) ⟨rfl,rfl,rfl,Nat.le_refl _,fun _ _ _=>rfl⟩
 | some ad=>exact wpList_append_own _ hgd s x t ho base e i z size bytes ht hi hz hsize hby hzs hsz v n xs hs hown ad m c news hx hl (hsrc.2 ad rfl) h1 h63 hbytes hbase (fun v' w' h2 h3 _=>h v' w' h2 h3)
structure ScD where
 vs:List ByteArray
 ls:List ByteArray
 gs:List (ByteArray×Int)
def ScD.At (w:World) (lo B K:Nat) (d:ScD) (cs:List Value):Prop :=
 ∃ va la ga vc lc gc,cs=[.slice va d.vs.length vc,.slice la d.ls.length lc,.slice ga d.gs.length gc]∧NmsAt w lo B d.vs va∧NmsAt w lo B d.ls la∧SgsAt w lo B d.gs ga∧d.vs.length≤K∧d.ls.length≤K∧d.gs.length≤K
theorem ScD.At.keep {w w':World} {lo B K:Nat} {d:ScD} {cs:List Value} (h:ScD.At w lo B K d cs) (hk:Kept lo B w w'):ScD.At w' lo B K d cs:=by
 obtain ⟨va,la,ga,vc,lc,gc,h0,h1,h2,h3,h4⟩:=h
 exact ⟨va,la,ga,vc,lc,gc,h0,h1.keep hk,h2.keep hk,h3.keep hk,h4⟩
theorem ScD.At.mono {w:World} {lo B B' K K':Nat} {d:ScD} {cs:List Value} (h:ScD.At w lo B K d cs) (hB:B≤B') (hK:K≤K'):ScD.At w lo B' K' d cs:=by
 obtain ⟨va,la,ga,vc,lc,gc,h0,h1,h2,h3,h4,h5,h6⟩:=h
 exact ⟨va,la,ga,vc,lc,gc,h0,h1.mono hB,h2.mono hB,h3.mono hB,by omega,by omega,by omega⟩
theorem ScD.At.len {w:World} {lo B K:Nat} {d:ScD} {cs:List Value} (h:ScD.At w lo B K d cs):cs.length=3:=by
 obtain ⟨_,_,_,_,_,_,rfl,_⟩:=h;rfl
theorem ScD.At.nil (w:World) (lo B K:Nat):ScD.At w lo B K ⟨[],[],[]⟩ [.slice none 0 0,.slice none 0 0,.slice none 0 0]:=⟨none,none,none,0,0,0,rfl,.inl rfl,.inl rfl,.inl rfl,Nat.zero_le _,Nat.zero_le _,Nat.zero_le _⟩
end Go.Proofs.YticpebgjbfanpaaGreatDoor

/- Free variables of an expression: plain functions and their laws. No program here. -/
namespace Go.Proofs.YticpebgjbfanpaaGreatDoor
open Go.RowKit
def pvars (l:List ParD):List ByteArray:=(l.filter (·.value)).map (·.name)
def memB (l:List ByteArray) (s:ByteArray):Bool:=l.any fun t=>t.toList==s.toList
def innV (op:Int) (nm:ByteArray) (i:Nat):List ByteArray:=if (op=22∧i=1)∨(op=19∧i=2)∨(op=20∧2≤i) then [nm] else []
theorem pvars_step (l:List ParD) {k:Nat} (h:k<l.length):pvars (l.take (k+1))=pvars (l.take k)++(if l[k].value then [l[k].name] else []):=by
 unfold pvars
 rw [← List.take_append_getElem h,List.filter_append,List.map_append]
 congr 1
 cases hv:l[k].value<;>simp [hv]
def insR:List ByteArray→ByteArray→List ByteArray
 | [],s=>[s]
 | x::r,s=>if x.data.toList<s.data.toList then x::insR r s else if x.data.toList=s.data.toList then x::r else s::x::r
theorem insR_mem (l:List ByteArray) (s:ByteArray) (y:List UInt8):y∈(insR l s).map (·.data.toList)↔y=s.data.toList∨y∈l.map (·.data.toList):=by
 induction l with
 | nil=>simp [insR]
 | cons x r ih =>
   unfold insR
   split
   ·rw [List.map_cons,List.mem_cons,ih,List.map_cons,List.mem_cons]
    constructor
    ·rintro (h | h | h)
     ·exact .inr (.inl h)
     ·exact .inl h
     ·exact .inr (.inr h)
    ·rintro (h | h | h)
     ·exact .inr (.inl h)
     ·exact .inl h
     ·exact .inr (.inr h)
   ·split
    ·rename_i h
     rw [List.map_cons,List.mem_cons,h]
     constructor
     ·exact fun h=>.inr h
     ·rintro (h | h)
      ·exact .inl h
      ·exact h
    ·simp
theorem list_lt {a b:List UInt8} (h:¬ a<b) (hn:a≠b):b<a:=by
 rcases Classical.em (b<a) with h1 | h1
 ·exact h1
 ·exact absurd (List.le_antisymm (List.not_lt.1 h1) (List.not_lt.1 h)) hn
theorem insR_sorted (l:List ByteArray) (s:ByteArray) (h:(l.map (·.data.toList)).Pairwise (·<·)):((insR l s).map (·.data.toList)).Pairwise (·<·):=by
 induction l with
 | nil=>simp [insR]
 | cons x r ih =>
   rw [List.map_cons,List.pairwise_cons] at h
   unfold insR
   split
   ·rename_i hx
    rw [List.map_cons,List.pairwise_cons]
    refine ⟨fun y hy=>?_,ih h.2⟩
    rcases (insR_mem r s y).1 hy with rfl | hy
    ·exact hx
    ·exact h.1 y hy
   ·split
    ·rw [List.map_cons,List.pairwise_cons];exact h
    ·rename_i h1 h2
     have hs:=list_lt h1 h2
     rw [List.map_cons,List.pairwise_cons,List.map_cons,List.pairwise_cons]
     refine ⟨fun y hy=>?_,h⟩
     rcases List.mem_cons.1 hy with rfl | hy
     ·exact hs
     ·exact List.lt_trans hs (h.1 y hy)
theorem insR_at (l:List ByteArray) (s:ByteArray):∀ k,k≤l.length→(∀ j (hj:j<l.length),j<k→l[j].data.toList<s.data.toList)→(∀ h:k<l.length,¬ l[k].data.toList<s.data.toList) →
 insR l s=if h:k<l.length then (if l[k].data.toList=s.data.toList then l else l.take k++s::l.drop k) else l++[s]:=by
 induction l with
 | nil=>intro k hk _ _;simp [insR]
 | cons x r ih =>
   intro k hk hb hn
   cases k with
   | zero =>
     have h0:=hn (by simp)
     simp only [List.getElem_cons_zero] at h0
     unfold insR
     rw [if_neg h0]
     simp
   | succ k =>
     have h0:=hb 0 (by simp) (by omega)
     simp only [List.getElem_cons_zero] at h0
     unfold insR
     rw [if_pos h0,ih k (by simpa using hk) (fun j hj hjk=>by have h:=hb (j+1) (by simpa using hj) (by omega);rw [List.getElem_cons_succ] at h;exact h) (fun h=>by have h2:=hn (by simpa using h);rw [List.getElem_cons_succ] at h2;exact h2)]
     by_cases hl:k<r.length
     ·rw [dif_pos hl,dif_pos (by simpa using hl)]
      simp only [List.getElem_cons_succ]
      split
      ·rfl
      ·simp
     ·rw [dif_neg hl,dif_neg (by simpa using hl)]
      rfl
def insAll (l:List ByteArray) (L:List ByteArray):List ByteArray:=L.foldl insR l
theorem insAll_nil (l:List ByteArray):insAll l []=l:=rfl
theorem insAll_append (l L M:List ByteArray):insAll l (L++M)=insAll (insAll l L) M:=by unfold insAll;rw [List.foldl_append]
theorem insAll_mem (L:List ByteArray):∀ (l:List ByteArray) (y:List UInt8),y∈(insAll l L).map (·.data.toList)↔y∈L.map (·.data.toList)∨y∈l.map (·.data.toList):=by
 induction L with
 | nil=>intro l y;simp [insAll]
 | cons s r ih =>
   intro l y
   show y∈(insAll (insR l s) r).map (·.data.toList)↔_
   rw [ih,insR_mem,List.map_cons,List.mem_cons]
   constructor
   ·rintro (h | h | h)
    ·exact .inl (.inr h)
    ·exact .inl (.inl h)
    ·exact .inr h
   ·rintro ((h | h) | h)
    ·exact .inr (.inl h)
    ·exact .inl h
    ·exact .inr (.inr h)
theorem insR_len (l:List ByteArray) (s:ByteArray):(insR l s).length≤l.length+1:=by
 induction l with
 | nil=>simp [insR]
 | cons x r ih =>
   unfold insR
   split
   ·simp only [List.length_cons];omega
   ·split<;>simp
theorem sorted_same {l m:List (List UInt8)} (h1:l.Pairwise (·<·)) (h2:m.Pairwise (·≤·)) (hn:m.Nodup) (hm:∀ y,y∈m↔y∈l):l=m:=by
 have hl:l.Nodup:=h1.imp fun {a b} h e=>by subst e;exact List.lt_irrefl _ h
 refine List.Perm.eq_of_pairwise (le:=fun a b=>a≤b) (fun a b _ _ h3 h4=>List.le_antisymm h3 h4) (h1.imp fun {a b} h=>List.le_of_lt h) h2 ?_
 exact (List.perm_ext_iff_of_nodup hl hn).2 fun y=>(hm y).symm
def qdE (e:ExprD):Prop:=(e.op=19→e.args.length≤3)∧e.val.bytes=[]∧e.val.list=[]∧e.val.fields=[]
def gdE:Nat→ExprD→Prop
 | 0,e=>qdE e∧e.args=[]∧e.funcs=[]
 | m+1,e=>qdE e∧(∀ a∈e.args,gdE m a)∧∀ f∈e.funcs,gdE m f.body
theorem gdE_leaf (m:Nat) {e:ExprD} (hq:qdE e) (ha:e.args=[]) (hf:e.funcs=[]):gdE m e:=by
 cases m with
 | zero=>exact ⟨hq,ha,hf⟩
 | succ m=>exact ⟨hq,by rw [ha];simp,by rw [hf];simp⟩
theorem gdE_q {m:Nat} {e:ExprD} (h:gdE m e):qdE e:=by
 cases m with
 | zero=>exact h.1
 | succ m=>exact h.1
theorem zero_parts {v:ValD} (h:zeroB v=true):v.bytes=[]∧v.list=[]∧v.fields=[]:=by
 obtain ⟨_,_,_,_,_,h5,h6,h7⟩:=of_decide_eq_true h
 exact ⟨List.length_eq_zero_iff.1 h5,List.length_eq_zero_iff.1 h6,List.length_eq_zero_iff.1 h7⟩
theorem chk_own {v:ValD} (h:chkD v=0):ownB v=true:=by
 cases ho:ownB v
 ·exfalso
  have h1:(lookD 48 v 0).2=0:=h
  rw [show lookD 48 v 0=(if 65536≤(0:Int) then (0,10) else if oneE v=0 then kidsL (lookD 47) (kidsD v) (0+1) else (0,oneE v)) from rfl,if_neg (by decide),oneE_6 ho,if_neg (by decide)] at h1
  exact absurd h1 (by decide)
 ·rfl
theorem lit_parts {v:ValD} (h:chkD v=0) (hl:litB v=true):v.bytes=[]∧v.list=[]∧v.fields=[]:=by
 obtain ⟨_,_,_,_,_,_,h5,h6,h7⟩:=of_decide_eq_true (chk_own h)
 have hk:=of_decide_eq_true hl
 exact ⟨List.length_eq_zero_iff.1 (h5 (by omega)),List.length_eq_zero_iff.1 (h6 (by omega)),List.length_eq_zero_iff.1 (h7 (by omega))⟩
theorem form_qd {e:ExprD} (hf:formB e=true) (hc:e.op=3→chkD e.val=0):qdE e:=by
 obtain ⟨_,_,hn,_,_,_,_,_,hz,_,_,hl,_⟩:=of_decide_eq_true hf
 refine ⟨fun h=>?_,?_⟩
 ·have:=hn (by rw [h];decide)
  rw [h] at this
  have h3:numE 19=3:=by decide
  omega
 ·by_cases h3:e.op=3
  ·exact lit_parts (hc h3) (hl h3)
  ·rcases hz with hz | hz
   ·exact absurd hz h3
   ·exact zero_parts hz
theorem abs_qd {x:ExprD} (h:formB x=true) {u:ExprD} (hu:u∈x.args) (ho:u.op=30):qdE u:=by
 obtain ⟨_,_,_,_,_,ha,_⟩:=of_decide_eq_true h
 obtain ⟨i,hi,rfl⟩:=List.getElem_of_mem hu
 unfold argsB at ha
 rw [List.all_eq_true] at ha
 have h1:=of_decide_eq_true (ha i (by simpa using hi))
 simp only [List.getD_eq_getElem?_getD,List.getElem?_eq_getElem hi,Option.getD_some] at h1
 obtain ⟨_,h2⟩:=h1 ho
 obtain ⟨_,_,hz,_,_⟩:=of_decide_eq_true h2
 exact ⟨fun h=>by omega,zero_parts hz⟩
theorem look_good (idB:ByteArray→Bool) (rgB:ExprD→Bool):∀ (m:Nat) (x:ExprD) (s y:Int),lookE idB rgB (m+1) x s=(y,0)→gdE m x:=by
 intro m
 induction m with
 | zero =>
   intro x s y h
   obtain ⟨ha,hf⟩:=(look_done idB rgB 0 x s y h).1
   refine ⟨?_,ha,hf⟩
   rw [lookE] at h
   split at h
   ·simp at h
   split at h
   ·simp at h
   split at h
   ·rename_i hc;simp at h;exact absurd h.2 hc.2
   rename_i hfb hc
   exact form_qd (by simpa using hfb) (fun h3=>by
    rcases Classical.em (chkD x.val=0) with h4 | h4
    ·exact h4
    ·exact absurd ⟨h3,h4⟩ hc)
 | succ m ih =>
   intro x s y h'
   rw [lookE] at h'
   split at h'
   ·simp at h'
   split at h'
   ·simp at h'
   split at h'
   ·rename_i hc;simp at h';exact absurd h'.2 hc.2
   split at h'
   ·simp at h'
   split at h'
   ·simp at h'
   split at h'
   ·rename_i hh;rw [h'] at hh;exact absurd rfl hh
   ·rename_i hfb hc _ _ h2
    have hfb':formB x=true:=by simpa using hfb
    have hq:qdE x:=form_qd hfb' (fun h3=>by
     rcases Classical.em (chkD x.val=0) with h4 | h4
     ·exact h4
     ·exact absurd ⟨h3,h4⟩ hc)
    have h3:=Classical.not_not.1 h2
    obtain ⟨p,q,hpq⟩:∃ p q,funsE idB (lookE idB rgB (m+1)) [] x.funcs (s+1)=(p,q):=⟨_,_,rfl⟩
    rw [hpq] at h3 h'
    obtain rfl:q=0:=h3
    have ih2:∀ x s y,lookE idB rgB (m+1) x s=(y,0)→gdE m x∧y=s+ndE m x:=fun x s y h=>⟨ih x s y h,(look_done idB rgB m x s y h).2⟩
    obtain ⟨f1,_⟩:=funs_done idB (lookE idB rgB (m+1)) (gdE m) (ndE m) ih2 x.funcs [] (s+1) p hpq
    obtain ⟨k1,_⟩:=kids_done (m+1) (lookE idB rgB (m+1)) (gdE m) (ndE m) ih2 x.args _ y (fun u hu ho _=>by
     obtain ⟨a1,a2⟩:=form_abs hfb' hu ho
     exact ⟨gdE_leaf m (abs_qd hfb' hu ho) a1 a2,ndE_leaf m a1 a2⟩) h'
    exact ⟨hq,k1,f1⟩
end Go.Proofs.YticpebgjbfanpaaGreatDoor

/- The reference's lists of names (datakitref38.more, has, insert). -/
namespace Go.Proofs.YticpebgjbfanpaaGreatDoor
open Go.RowKit
def NmsR (lo:Nat) (l:List ByteArray) (w:World) (e:Ending) (w':World):Prop:=∃ (a:Option Addr) (c:Nat),e=.returned (.slice a l.length c)∧l.length≤c∧c≤maxLen∧NmsAt w' lo w'.heap.size l a∧Below w.heap.size w w'
theorem nms_ret {lo:Nat} {l:List ByteArray} {w w':World} {v:Value} {n:Nat} {xs:List Value} (h:w'.ownsRow w.heap.size 9 1 v n xs) (hlo:lo≤w.heap.size) (hn:n=l.length) (hx:xs=l.map .string) (hb:Below w.heap.size w w'):NmsR lo l w (.returned v) w':=by
 subst hn hx
 obtain ⟨a,c,rfl,h1,h2,h3⟩:=nms_own h hlo
 exact ⟨a,c,rfl,h1,h2,h3,hb⟩
theorem grown_below {w w1 w2:World} {row:Option Nat} {o:Obj} (hb:Below w.heap.size w w1) (h:(w1.alloc o).grownBy w2 row) (hr:∀ k,row=some k→w.heap.size≤k):Below w.heap.size w w2 :=
 (hb.alloc hb.size o).grown h (by have:=hb.size;simp;omega) hr
theorem nms_one (l:List ByteArray):∀ u∈l.map Value.string,u.oneCell'=true:=fun u hu=>by obtain ⟨x,_,rfl⟩:=List.mem_map.1 hu;rfl
set_option maxRecDepth 100000 in
set_option maxHeartbeats 1600000 in
theorem more_r (l:List ByteArray) (s:ByteArray) (a:Option Addr) (c:Nat) (w:World) (lo1 lo B:Nat) (hl:l.length≤1099511627776) (hB:B≤w.heap.size) (hlo:lo≤w.heap.size) (h:NmsAt w lo1 B l a) :
 Calls Tryz.prog 99 #[.slice a l.length c,.string s] w (NmsR lo (l++[s]) w):=by
 obtain ⟨i0,hi,hz0,hz1,hz2⟩:=info_parts infoSt
 have HI:=Hd hi
 have HZ0:=Hd hz0
 have HZ1:=Hd hz1
 have HZ2:=Hd hz2
 have HA:=Hd h
 clear hi hz0 hz1 hz2 h
 go_enter Tryz.func99,Tryz.ntmps99
 go_wp2_with (at_builtin;refine wpList_append_src rfl _ _ 55 rfl w.heap.size 9 i0 (.string ⟨#[]⟩) 1 16 Tryz.underlying55 HI.out HZ0.out HZ1.out HZ2.out rfl (by decide) _ _ _ rfl (World.ownsRow_made w #[] 0 (Nat.le_refl _) (Nat.zero_le _) rfl) a l.length c (l.map .string) rfl ?c1 ?c2 (nms_one l) ?c4 ?c5 ?c6 ?_)
 case c1=>simp
 case c2=>exact (HA.out.keep (Kept.of_below ((belowBox w _).mono hB))).src
 case c4=>unfold maxLen;omega
 case c5=>omega
 case c6=>simp
 intro v1 w1 hown1 hgrow1
 have HO1:=Hd hown1
 have HB1:=Hd (show Below w.heap.size w w1 from (belowBox w _).grown hgrow1 (by simp) (by intro k hk;simp [Value.ownBlock] at hk;omega))
 clear hown1 hgrow1
 go_wp2_with (at_builtin;refine wpList_append_src rfl _ _ 55 rfl w.heap.size 9 i0 (.string ⟨#[]⟩) 1 16 Tryz.underlying55 HI.out HZ0.out HZ1.out HZ2.out rfl (by decide) _ _ _ rfl (HO1.out.alloc _) (some ⟨w1.heap.size,0,none⟩) 1 1 [.string s] rfl rfl (src_new w1 [.string s] 9 1) ?c3 ?c4 ?c5 ?c6 ?_)
 case c3=>intro u hu;simp at hu;subst hu;rfl
 case c4=>unfold maxLen;omega
 case c5=>omega
 case c6=>have:=HB1.out.size;simp;omega
 intro v2 w2 hown2 hgrow2
 have HB2:=Hd (grown_below HB1.out hgrow2 (fun k hk=>(HO1.out.lt k hk).1))
 have HO2:=Hd hown2
 clear hown2 hgrow2
 go_wp2
 go_ret
 exact nms_ret HO2.out hlo (by simp) (by simp) HB2.out
theorem memB_all {l:List ByteArray} {s:ByteArray} (h:∀ j (hj:j<l.length),(l[j].toList==s.toList)=false):memB l s=false:=by
 unfold memB
 rw [List.any_eq_false]
 intro t ht
 obtain ⟨j,hj,rfl⟩:=List.getElem_of_mem ht
 rw [h j hj];simp
theorem memB_one {l:List ByteArray} {s:ByteArray} {j:Nat} (hj:j<l.length) (h:(l[j].toList==s.toList)=true):memB l s=true:=by
 unfold memB
 rw [List.any_eq_true]
 exact ⟨l[j],List.getElem_mem hj,h⟩
set_option maxRecDepth 100000 in
theorem has_r (l:List ByteArray) (s:ByteArray) (a:Option Addr) (c:Nat) (w:World) (lo B:Nat) (hl:l.length≤1099511627776) (h:NmsAt w lo B l a) :
 Calls Tryz.prog 35 #[.slice a l.length c,.string s] w (fun e w'=>e=.returned (.bool (memB l s))∧w=w'):=by
 have HA:=Hd h
 clear h
 go_enter Tryz.func35,Tryz.ntmps35
 go_wp2_with fail
 go_simp
 go_loopw [5] (fun i wr=>∃ k:Nat,k≤l.length∧i=.int .i64 k∧Hid (∀ j (hj:j<l.length),j<k→(l[j].toList==s.toList)=false)∧wr=w) (fun i _=>l.length-(intOf i).toNat)
 case atStart=>exact ⟨0,by omega,rfl,Hd (fun j _ hj=>absurd hj (by omega)),rfl⟩
 case round =>
  obtain ⟨k,hk,rfl,HN,rfl⟩:=hrel
  by_cases hlt:k<l.length
  ·obtain ⟨b,rfl,_,_,hget⟩:=HA.out.get (by intro h;simp [h] at hlt)
   have e0:=hget k hlt
   clear hget
   cases he:(l[k].toList==s.toList)
   ·have HN2:=Hd (show ∀ j (hj:j<l.length),j<k+1→(l[j].toList==s.toList)=false from fun j hj hjk=>by
     by_cases hjk2:j=k
     ·subst hjk2;exact he
     ·exact HN.out j hj (by omega))
    go_wp2_with fail
    go_roundw
    case rel=>exact ⟨k+1,by omega,by go_num,HN2,trivial⟩
    case measure=>simp [intOf];omega
   ·have HR:=Hd (memB_one hlt he)
    go_wp2_with fail
    go_ret
    exact ⟨ret_bool HR.out.symm,rfl⟩
  ·have HR:=Hd (memB_all (l:=l) (s:=s) fun j hj=>HN.out j hj (by omega))
   go_wp2_with fail
   go_ret
   exact ⟨ret_bool HR.out.symm,rfl⟩
theorem less_true {a b:ByteArray} (h:Op.bytesLess a.toList b.toList=true):a.data.toList<b.data.toList:=by
 rw [Go.Proofs.bytesLess_eq,decide_eq_true_eq,ByteArray.toList_eq,ByteArray.toList_eq] at h
 exact h
theorem less_false {a b:ByteArray} (h:Op.bytesLess a.toList b.toList=false):¬ a.data.toList<b.data.toList:=by
 rw [Go.Proofs.bytesLess_eq,decide_eq_false_iff_not,ByteArray.toList_eq,ByteArray.toList_eq] at h
 exact h
theorem same_true {a b:ByteArray} (h:(a.toList==b.toList)=true):a.data.toList=b.data.toList:=by
 rw [ByteArray.toList_eq,ByteArray.toList_eq] at h
 simpa using h
theorem same_false {a b:ByteArray} (h:(a.toList==b.toList)=false):¬ a.data.toList=b.data.toList:=by
 rw [ByteArray.toList_eq,ByteArray.toList_eq] at h
 simpa using h
theorem src_take {w:World} {b:Nat} {l:List ByteArray} (h:∀ (j:Nat) (hj:j<l.length),w.cell? ⟨b,j,none⟩=some (.string l[j])) (k:Nat):SrcAt w (some ⟨b,0,none⟩) k ((l.take k).map .string):=by
 refine ⟨fun h=>(by cases h),fun ad e j u hu=>?_⟩
 cases e
 rw [List.getElem?_map,List.getElem?_take] at hu
 split at hu
 ·obtain ⟨x,hx,rfl⟩:=Option.map_eq_some_iff.1 hu
  obtain ⟨hj,rfl⟩:=List.getElem?_eq_some_iff.1 hx
  rw [addr_add',Nat.zero_add]
  exact h j hj
 ·cases hu
theorem src_drop {w:World} {b:Nat} {l:List ByteArray} (h:∀ (j:Nat) (hj:j<l.length),w.cell? ⟨b,j,none⟩=some (.string l[j])) (k m:Nat):SrcAt w (some ⟨b,k,none⟩) m ((l.drop k).map .string):=by
 refine ⟨fun h=>(by cases h),fun ad e j u hu=>?_⟩
 cases e
 rw [List.getElem?_map,List.getElem?_drop] at hu
 obtain ⟨x,hx,rfl⟩:=Option.map_eq_some_iff.1 hu
 obtain ⟨hj,rfl⟩:=List.getElem?_eq_some_iff.1 hx
 rw [addr_add']
 exact h (k+j) hj
theorem src_none (w:World) (a:Option Addr):SrcAt w a 0 []:=⟨fun _=>rfl,fun ad _ j u hu=>by simp at hu⟩
theorem cells_kept {w w':World} {B b:Nat} {l:List ByteArray} (h:∀ (j:Nat) (hj:j<l.length),w.cell? ⟨b,j,none⟩=some (.string l[j])) (hb:Below B w w') (hlt:b<B):∀ (j:Nat) (hj:j<l.length),w'.cell? ⟨b,j,none⟩=some (.string l[j]):=fun j hj=>(hb.cell hlt).trans (h j hj)
end Go.Proofs.YticpebgjbfanpaaGreatDoor

/- The reference's scopes (datakitref38.scope's methods). -/
namespace Go.Proofs.YticpebgjbfanpaaGreatDoor
open Go.RowKit
def ScR (lo K:Nat) (d:ScD) (w:World) (e:Ending) (w':World):Prop:=∃ cs,e=.returned (.agg cs.toArray)∧ScD.At w' lo w'.heap.size K d cs∧Below w.heap.size w w'
structure Box2 (w u:World) (cs zs:List Value) (t:TypeId):Prop where
 row:CellsAt u w.heap.size 0 cs
 out:u.heap[w.heap.size+1]?=some (.cells zs.toArray t (0,0))
 low:Below w.heap.size w u
 size:w.heap.size+2≤u.heap.size
theorem Box2.start (w:World) (cs zs:List Value) (t1 t:TypeId):Box2 w ((w.alloc (.cells cs.toArray t1)).alloc (.cells zs.toArray t)) cs zs t:=by
 refine ⟨(box_at w cs t1).then (belowBox _ _) (by rw [World.size_alloc];omega),?_,belowThen (belowBox w _) (belowBox _ _),by simp only [World.size_alloc];omega⟩
 have h:=heap_alloc_new (w.alloc (.cells cs.toArray t1)) (.cells zs.toArray t)
 rw [World.size_alloc] at h
 exact h
theorem Box2.below {w u u':World} {cs zs:List Value} {t:TypeId} (h:Box2 w u cs zs t) (hb:Below u.heap.size u u'):Box2 w u' cs zs t :=
 ⟨h.row.then hb (by have:=h.size;omega),(hb.block _ (by have:=h.size;omega)).trans h.out,belowThen h.low hb,Nat.le_trans h.size hb.size⟩
theorem Box2.below2 {w u u':World} {cs zs:List Value} {t:TypeId} (h:Box2 w u cs zs t) (hb:Below (w.heap.size+2) u u'):Box2 w u' cs zs t :=
 ⟨h.row.below hb (by omega),(hb.block _ (by omega)).trans h.out,h.low.trans (hb.mono (by omega)),Nat.le_trans h.size hb.size⟩
theorem Box2.drew {w u:World} {cs zs:List Value} {t:TypeId} (h:Box2 w u cs zs t):Box2 w u.drew cs zs t:=h.below ⟨rfl,rfl,rfl,Nat.le_refl _,fun _ _=>rfl⟩
def Box2E (w u:World) (cs:List Value) (n:Nat) (t:TypeId):Prop:=∃ zs:List Value,zs.length=n∧Box2 w u cs zs t
theorem Box2E.below {w u u':World} {cs:List Value} {n:Nat} {t:TypeId} (h:Box2E w u cs n t) (hb:Below u.heap.size u u'):Box2E w u' cs n t:=by
 obtain ⟨zs,hz,h⟩:=h
 exact ⟨zs,hz,h.below hb⟩
theorem Box2E.row {w u:World} {cs:List Value} {n:Nat} {t:TypeId} (h:Box2E w u cs n t):CellsAt u w.heap.size 0 cs:=by
 obtain ⟨zs,hz,h⟩:=h
 exact h.row
theorem Box2E.low {w u:World} {cs:List Value} {n:Nat} {t:TypeId} (h:Box2E w u cs n t):Below w.heap.size w u:=by
 obtain ⟨zs,hz,h⟩:=h
 exact h.low
theorem Box2E.size {w u:World} {cs:List Value} {n:Nat} {t:TypeId} (h:Box2E w u cs n t):w.heap.size+2≤u.heap.size:=by
 obtain ⟨zs,hz,h⟩:=h
 exact h.size
theorem Box2E.set {w u:World} {cs:List Value} {n:Nat} {t:TypeId} (h:Box2E w u cs n t) (ds:List Value):Box2 w (u.setRow (w.heap.size+1) ds.toArray) cs ds t:=by
 obtain ⟨zs,hz,h⟩:=h
 have hk:∀ k,k≠w.heap.size+1→(u.setRow (w.heap.size+1) ds.toArray).heap[k]?=u.heap[k]?:=fun k hk=>setRow_other _ _ _ _ (by omega)
 refine ⟨fun j hj=>?_,setRow_heap _ _ _ _ _ _ h.out,below_setRow h.low (by omega) _,by have:=h.size;simpa using this⟩
 rw [← h.row j hj]
 simp only [World.cell?]
 rw [hk _ (by omega)]
theorem one3 (a b c:Option Addr) (i j k m n o:Nat):(#[Value.slice a i j,Value.slice b k m,Value.slice c n o]:Array Value).all (·.oneCell')=true :=
 Go.all_oneCell_toArray (cs:=[.slice a i j,.slice b k m,.slice c n o]) (fun v hv=>by
  simp only [List.mem_cons,List.mem_nil_iff,or_false] at hv
  rcases hv with rfl | rfl | rfl<;>rfl)
theorem kept_row {w u:World} {lo B:Nat} (cs:Array Value) (h:B≤w.heap.size+1∨w.heap.size+2≤lo):Kept lo B u (u.setRow (w.heap.size+1) cs):=fun k h1 h2=>setRow_other _ _ _ _ (by omega)
theorem more_n (l:List ByteArray) (n:Nat) (hn:l.length=n) (s:ByteArray) (a:Option Addr) (c:Nat) (w:World) (lo1 lo B:Nat) (hl:l.length≤1099511627776) (hB:B≤w.heap.size) (hlo:lo≤w.heap.size) (h:NmsAt w lo1 B l a) :
 Calls Tryz.prog 99 #[.slice a n c,.string s] w (NmsR lo (l++[s]) w):=by
 subst hn
 exact more_r l s a c w lo1 lo B hl hB hlo h
abbrev zero3:List Value:=[.slice none 0 0,.slice none 0 0,.slice none 0 0]
set_option maxRecDepth 100000 in
set_option maxHeartbeats 3200000 in
theorem variable_r (d:ScD) (s:ByteArray) (cs:List Value) (w:World) (lo B C:Nat) (hC:C≤1073741824) (hB:B≤w.heap.size) (hlo:lo≤w.heap.size) (h:ScD.At w lo B C d cs) :
 Calls Tryz.prog 67 #[.agg cs.toArray,.string s] w (ScR lo (C+1) ⟨d.vs++[s],d.ls,d.gs⟩ w):=by
 obtain ⟨va,la,ga,vc,lc,gc,rfl,hv,hls,hg,k1,k2,k3⟩:=h
 have HV:=Hd hv
 have HL:=Hd hls
 have HG:=Hd hg
 obtain ⟨nv,hnv⟩:∃ n,d.vs.length=n:=⟨_,rfl⟩
 obtain ⟨nl,hnl⟩:∃ n,d.ls.length=n:=⟨_,rfl⟩
 obtain ⟨ng,hng⟩:∃ n,d.gs.length=n:=⟨_,rfl⟩
 have HNV:=Hd hnv
 have HNL:=Hd hnl
 have HNG:=Hd hng
 have K1:=Hd k1
 have K2:=Hd k2
 have K3:=Hd k3
 rw [hnv,hnl,hng]
 clear hv hls hg hnv hnl hng k1 k2 k3
 go_enter Tryz.func67,Tryz.ntmps67
 go_wp2_with fail
 have B0:=Hd (Box2.start w [.slice va nv vc,.slice la nl lc,.slice ga ng gc] zero3 96 96)
 refine wp_region_held_drew (S:=fun u=>Box2E w u [.slice va nv vc,.slice la nl lc,.slice ga ng gc] 3 96) (by kernel_rfl) ⟨_,rfl,B0.out.drew⟩ (fun hHeld=>?_)
 refine' wpAnyH_take (i:=0) (v:=.pointer (some ⟨w.heap.size,0,none⟩)) rfl (by kernel_rfl) (by kernel_rfl) (by kernel_rfl) (fun _ _ _ h=>h) (.inl ⟨by rfl,fun u hu=>(by go_simp)⟩) hHeld ?_
 simp only [Act.put,List.setIfInBounds_toArray]
 refine' wpAnyH_take (i:=1) (v:=.slice va nv vc) rfl (by kernel_rfl) (by kernel_rfl) (by kernel_rfl) (fun _ _ _ h=>h) (.inl ⟨by rfl,fun u hu=>(by have hc:=hu.row.get0 (j:=0) rfl;go_simp)⟩) hHeld ?_
 simp only [Act.put]
 refine' wpAnyH_take (i:=2) (v:=.string s) rfl (by kernel_rfl) (by kernel_rfl) (by kernel_rfl) (fun _ _ _ h=>h) (.inl ⟨by rfl,fun u hu=>(by go_simp)⟩) hHeld ?_
 simp only [Act.put]
 refine' wpAnyH_take (i:=4) (v:=.pointer (some ⟨w.heap.size,1,none⟩)) rfl (by kernel_rfl) (by kernel_rfl) (by kernel_rfl) (fun _ _ _ h=>h) (.inl ⟨by rfl,fun u hu=>(by go_simp)⟩) hHeld ?_
 simp only [Act.put]
 refine' wpAnyH_take (i:=5) (v:=.slice la nl lc) rfl (by kernel_rfl) (by kernel_rfl) (by kernel_rfl) (fun _ _ _ h=>h) (.inl ⟨by rfl,fun u hu=>(by have hc:=hu.row.get0 (j:=1) rfl;go_simp)⟩) hHeld ?_
 simp only [Act.put]
 refine' wpAnyH_take (i:=6) (v:=.pointer (some ⟨w.heap.size,2,none⟩)) rfl (by kernel_rfl) (by kernel_rfl) (by kernel_rfl) (fun _ _ _ h=>h) (.inl ⟨by rfl,fun u hu=>(by go_simp)⟩) hHeld ?_
 simp only [Act.put]
 refine' wpAnyH_take (i:=7) (v:=.slice ga ng gc) rfl (by kernel_rfl) (by kernel_rfl) (by kernel_rfl) (fun _ _ _ h=>h) (.inl ⟨by rfl,fun u hu=>(by have hc:=hu.row.get0 (j:=2) rfl;go_simp)⟩) hHeld ?_
 simp only [Act.put]
 refine rd1 3 rfl (fun K hK=>?_)
 go_simp
 refine (more_n d.vs nv HNV.out s va vc _ lo (w.heap.size+2) B (by have:=K1.out;omega) (Nat.le_trans hB hHeld.low.size) hHeld.size (HV.out.keep (Kept.of_below (hHeld.low.mono hB)))).mono ?_
 rintro e u1 ⟨a1,c1,rfl,_,_,hn1,hb1⟩
 have N1:=Hd hn1
 have HB1:=Hd (hHeld.below hb1)
 obtain ⟨m1,hm1⟩:∃ m,(d.vs++[s]).length=m:=⟨_,rfl⟩
 have HM1:=Hd hm1
 rw [hm1]
 refine hK.out _ _ HB1.out (fun hHeld1=>?_)
 clear hK K hHeld hb1 hn1 hm1
 refine rd1 8 rfl (fun K hK=>?_)
 go_simp
 refine hK.out _ _ hHeld1 (fun hHeldx=>?_)
 clear hK K hHeldx
 refine rd1 9 rfl (fun K hK=>?_)
 rw [if_pos (by kernel_rfl)]
 obtain ⟨zs,hzs,hb2⟩:=hHeld1
 refine wp_store_row 96 _ _ rfl (w.heap.size+1) #[.slice a1 m1 c1,.slice la nl lc,.slice ga ng gc] rfl rfl 96 _ hb2.out (by kernel_rfl) (by rw [List.size_toArray,hzs];rfl) (one3 ..) ?_
 have hset:=Box2E.set (n:=3) ⟨zs,hzs,hb2⟩ [.slice a1 m1 c1,.slice la nl lc,.slice ga ng gc]
 have HSET:=Hd hset
 have HSZ:=Hd (show (u1.setRow (w.heap.size+1) #[.slice a1 m1 c1,.slice la nl lc,.slice ga ng gc]).heap.size=u1.heap.size by simp)
 refine hK.out _ _ ⟨_,rfl,hset⟩ (fun _=>?_)
 clear hK K hset
 refine wpAnyH_done (by kernel_rfl) ?_ _
 go_wp2_with fail
 refine bodyPost_ret (results_cell_row rfl _ _ (w.heap.size+1) 96 _ (0,0) _ rfl HSET.out.out Tryz.underlying96 rfl (by kernel_rfl)) rfl ?_
 have hlow:∀ u,Below w.heap.size w u→Kept lo B w u:=fun u hu=>Kept.of_below (hu.mono hB)
 have HL2:=(HL.out.keep (hlow _ HSET.out.low))
 have HG2:=(HG.out.keep (hlow _ HSET.out.low))
 have hsz:=HSET.out.size
 refine ⟨[.slice a1 m1 c1,.slice la nl lc,.slice ga ng gc],rfl,⟨a1,la,ga,c1,lc,gc,by rw [HM1.out,HNL.out,HNG.out],?_,HL2.mono (by omega),HG2.mono (by omega),?_,?_,?_⟩,HSET.out.low⟩
 ·have h1:=(N1.out.keep (kept_row (w:=w) #[.slice a1 m1 c1,.slice la nl lc,.slice ga ng gc] (.inr (Nat.le_refl _)))).less (show lo≤w.heap.size+2 by omega)
  exact h1.mono (Nat.le_of_eq HSZ.out.symm)
 ·have:=K1.out
  rw [List.length_append]
  show d.vs.length+1≤C+1
  omega
 ·have:=K2.out
  show d.ls.length≤C+1
  omega
 ·have:=K3.out
  show d.gs.length≤C+1
  omega
set_option maxRecDepth 100000 in
set_option maxHeartbeats 3200000 in
theorem label_r (d:ScD) (s:ByteArray) (cs:List Value) (w:World) (lo B C:Nat) (hC:C≤1073741824) (hB:B≤w.heap.size) (hlo:lo≤w.heap.size) (h:ScD.At w lo B C d cs) :
 Calls Tryz.prog 98 #[.agg cs.toArray,.string s] w (ScR lo (C+1) ⟨d.vs,d.ls++[s],d.gs⟩ w):=by
 obtain ⟨va,la,ga,vc,lc,gc,rfl,hv,hls,hg,k1,k2,k3⟩:=h
 have HV:=Hd hv
 have HL:=Hd hls
 have HG:=Hd hg
 obtain ⟨nv,hnv⟩:∃ n,d.vs.length=n:=⟨_,rfl⟩
 obtain ⟨nl,hnl⟩:∃ n,d.ls.length=n:=⟨_,rfl⟩
 obtain ⟨ng,hng⟩:∃ n,d.gs.length=n:=⟨_,rfl⟩
 have HNV:=Hd hnv
 have HNL:=Hd hnl
 have HNG:=Hd hng
 have K1:=Hd k1
 have K2:=Hd k2
 have K3:=Hd k3
 rw [hnv,hnl,hng]
 clear hv hls hg hnv hnl hng k1 k2 k3
 go_enter Tryz.func98,Tryz.ntmps98
 go_wp2_with fail
 have B0:=Hd (Box2.start w [.slice va nv vc,.slice la nl lc,.slice ga ng gc] zero3 96 96)
 refine wp_region_held_drew (S:=fun u=>Box2E w u [.slice va nv vc,.slice la nl lc,.slice ga ng gc] 3 96) (by kernel_rfl) ⟨_,rfl,B0.out.drew⟩ (fun hHeld=>?_)
 refine' wpAnyH_take (i:=0) (v:=.pointer (some ⟨w.heap.size,0,none⟩)) rfl (by kernel_rfl) (by kernel_rfl) (by kernel_rfl) (fun _ _ _ h=>h) (.inl ⟨by rfl,fun u hu=>(by go_simp)⟩) hHeld ?_
 simp only [Act.put,List.setIfInBounds_toArray]
 refine' wpAnyH_take (i:=1) (v:=.slice va nv vc) rfl (by kernel_rfl) (by kernel_rfl) (by kernel_rfl) (fun _ _ _ h=>h) (.inl ⟨by rfl,fun u hu=>(by have hc:=hu.row.get0 (j:=0) rfl;go_simp)⟩) hHeld ?_
 simp only [Act.put]
 refine' wpAnyH_take (i:=2) (v:=.pointer (some ⟨w.heap.size,1,none⟩)) rfl (by kernel_rfl) (by kernel_rfl) (by kernel_rfl) (fun _ _ _ h=>h) (.inl ⟨by rfl,fun u hu=>(by go_simp)⟩) hHeld ?_
 simp only [Act.put]
 refine' wpAnyH_take (i:=3) (v:=.slice la nl lc) rfl (by kernel_rfl) (by kernel_rfl) (by kernel_rfl) (fun _ _ _ h=>h) (.inl ⟨by rfl,fun u hu=>(by have hc:=hu.row.get0 (j:=1) rfl;go_simp)⟩) hHeld ?_
 simp only [Act.put]
 refine' wpAnyH_take (i:=4) (v:=.string s) rfl (by kernel_rfl) (by kernel_rfl) (by kernel_rfl) (fun _ _ _ h=>h) (.inl ⟨by rfl,fun u hu=>(by go_simp)⟩) hHeld ?_
 simp only [Act.put]
 refine' wpAnyH_take (i:=6) (v:=.pointer (some ⟨w.heap.size,2,none⟩)) rfl (by kernel_rfl) (by kernel_rfl) (by kernel_rfl) (fun _ _ _ h=>h) (.inl ⟨by rfl,fun u hu=>(by go_simp)⟩) hHeld ?_
 simp only [Act.put]
 refine' wpAnyH_take (i:=7) (v:=.slice ga ng gc) rfl (by kernel_rfl) (by kernel_rfl) (by kernel_rfl) (fun _ _ _ h=>h) (.inl ⟨by rfl,fun u hu=>(by have hc:=hu.row.get0 (j:=2) rfl;go_simp)⟩) hHeld ?_
 simp only [Act.put]
 refine rd1 5 rfl (fun K hK=>?_)
 go_simp
 refine (more_n d.ls nl HNL.out s la lc _ lo (w.heap.size+2) B (by have:=K2.out;omega) (Nat.le_trans hB hHeld.low.size) hHeld.size (HL.out.keep (Kept.of_below (hHeld.low.mono hB)))).mono ?_
 rintro e u1 ⟨a1,c1,rfl,_,_,hn1,hb1⟩
 have N1:=Hd hn1
 have HB1:=Hd (hHeld.below hb1)
 obtain ⟨m1,hm1⟩:∃ m,(d.ls++[s]).length=m:=⟨_,rfl⟩
 have HM1:=Hd hm1
 rw [hm1]
 refine hK.out _ _ HB1.out (fun hHeld1=>?_)
 clear hK K hHeld hb1 hn1 hm1
 refine rd1 8 rfl (fun K hK=>?_)
 go_simp
 refine hK.out _ _ hHeld1 (fun hHeldx=>?_)
 clear hK K hHeldx
 refine rd1 9 rfl (fun K hK=>?_)
 rw [if_pos (by kernel_rfl)]
 obtain ⟨zs,hzs,hb2⟩:=hHeld1
 refine wp_store_row 96 _ _ rfl (w.heap.size+1) #[.slice va nv vc,.slice a1 m1 c1,.slice ga ng gc] rfl rfl 96 _ hb2.out (by kernel_rfl) (by rw [List.size_toArray,hzs];rfl) (one3 ..) ?_
 have hset:=Box2E.set (n:=3) ⟨zs,hzs,hb2⟩ [.slice va nv vc,.slice a1 m1 c1,.slice ga ng gc]
 have HSET:=Hd hset
 have HSZ:=Hd (show (u1.setRow (w.heap.size+1) #[.slice va nv vc,.slice a1 m1 c1,.slice ga ng gc]).heap.size=u1.heap.size by simp)
 refine hK.out _ _ ⟨_,rfl,hset⟩ (fun _=>?_)
 clear hK K hset
 refine wpAnyH_done (by kernel_rfl) ?_ _
 go_wp2_with fail
 refine bodyPost_ret (results_cell_row rfl _ _ (w.heap.size+1) 96 _ (0,0) _ rfl HSET.out.out Tryz.underlying96 rfl (by kernel_rfl)) rfl ?_
 have hlow:∀ u,Below w.heap.size w u→Kept lo B w u:=fun u hu=>Kept.of_below (hu.mono hB)
 have HL2:=(HV.out.keep (hlow _ HSET.out.low))
 have HG2:=(HG.out.keep (hlow _ HSET.out.low))
 have hsz:=HSET.out.size
 refine ⟨[.slice va nv vc,.slice a1 m1 c1,.slice ga ng gc],rfl,⟨va,a1,ga,vc,c1,gc,by rw [HM1.out,HNV.out,HNG.out],HL2.mono (by omega),?_,HG2.mono (by omega),?_,?_,?_⟩,HSET.out.low⟩
 ·have h1:=(N1.out.keep (kept_row (w:=w) #[.slice va nv vc,.slice a1 m1 c1,.slice ga ng gc] (.inr (Nat.le_refl _)))).less (show lo≤w.heap.size+2 by omega)
  exact h1.mono (Nat.le_of_eq HSZ.out.symm)
 ·have:=K1.out
  show d.vs.length≤C+1
  omega
 ·have:=K2.out
  rw [List.length_append]
  show d.ls.length+1≤C+1
  omega
 ·have:=K3.out
  show d.gs.length≤C+1
  omega
theorem infoSg:(Tryz.prog.info? 163).map (fun i=>(i.zero,i.size,i.bytes))=some (some (.agg #[.string ⟨#[]⟩,.int .i64 0]),2,24):=by kernel_rfl
theorem sgs_one (l:List (ByteArray×Int)):∀ u∈(l.flatMap fun x=>[Value.string x.1,.int .i64 x.2]),u.oneCell'=true:=fun u hu=>by
 obtain ⟨x,_,hx⟩:=List.mem_flatMap.1 hu
 simp only [List.mem_cons,List.mem_nil_iff,or_false] at hx
 rcases hx with rfl | rfl<;>rfl
set_option maxRecDepth 100000 in
set_option maxHeartbeats 3200000 in
theorem function_r (d:ScD) (s:ByteArray) (n:Int) (cs:List Value) (w:World) (lo B C:Nat) (hC:C≤1073741824) (hB:B≤w.heap.size) (hlo:lo≤w.heap.size) (h:ScD.At w lo B C d cs) :
 Calls Tryz.prog 68 #[.agg cs.toArray,.string s,.int .i64 n] w (ScR lo (C+1) ⟨d.vs,d.ls,d.gs++[(s,n)]⟩ w):=by
 obtain ⟨i0,hi,hz0,hz1,hz2⟩:=info_parts infoSg
 have HI:=Hd hi
 have HZ0:=Hd hz0
 have HZ1:=Hd hz1
 have HZ2:=Hd hz2
 clear hi hz0 hz1 hz2
 obtain ⟨va,la,ga,vc,lc,gc,rfl,hv,hls,hg,k1,k2,k3⟩:=h
 have HV:=Hd hv
 have HL:=Hd hls
 have HG:=Hd hg
 obtain ⟨nv,hnv⟩:∃ n,d.vs.length=n:=⟨_,rfl⟩
 obtain ⟨nl,hnl⟩:∃ n,d.ls.length=n:=⟨_,rfl⟩
 obtain ⟨ng,hng⟩:∃ n,d.gs.length=n:=⟨_,rfl⟩
 have HNV:=Hd hnv
 have HNL:=Hd hnl
 have HNG:=Hd hng
 have K1:=Hd k1
 have K2:=Hd k2
 have K3:=Hd k3
 have hngC:ng≤C:=by omega
 have HSRC:=Hd (show ∀ u,Below w.heap.size w u→SrcAt u ga ng (d.gs.flatMap fun x=>[Value.string x.1,.int .i64 x.2]) from fun u hu=>by
  rw [← hng];exact (hg.keep (Kept.of_below (hu.mono hB))).src)
 have HLEN:=Hd (show (d.gs.flatMap fun x=>[Value.string x.1,.int .i64 x.2]).length=ng * 2 by rw [← hng];exact sgs_len _)
 rw [hnv,hnl,hng]
 clear hv hls hg hnv hnl hng k1 k2 k3
 have B0:=Hd (Box2.start w [.slice va nv vc,.slice la nl lc,.slice ga ng gc] zero3 96 96)
 have b0:=B0.out.row.get0 (j:=0) (v:=.slice va nv vc) rfl
 have b1:=B0.out.row.get0 (j:=1) (v:=.slice la nl lc) rfl
 have b2:=B0.out.row.get0 (j:=2) (v:=.slice ga ng gc) rfl
 go_enter Tryz.func68,Tryz.ntmps68
 go_wp2_with (at_builtin;refine wpList_append_src rfl _ _ 94 rfl (w.heap.size+2) 163 i0 (.agg #[.string ⟨#[]⟩,.int .i64 0]) 2 24 Tryz.underlying94 HI.out HZ0.out HZ1.out HZ2.out rfl (by decide) _ 0 [] rfl ?own ga ng gc (d.gs.flatMap fun x=>[Value.string x.1,.int .i64 x.2]) rfl HLEN.out ?src (sgs_one _) ?c4 ?c5 ?c6 ?_)
 case own =>
  have h:=World.ownsRow_made (e:=163) (size:=2) (base:=w.heap.size+2) ((w.alloc (.cells #[.slice va nv vc,.slice la nl lc,.slice ga ng gc] 96)).alloc (.cells zero3.toArray 96)) #[] 0 B0.out.size (Nat.zero_le _) rfl
  simp only [World.size_alloc] at h
  exact h
 case src=>exact HSRC.out _ (belowThen B0.out.low (belowBox _ _))
 case c4=>unfold maxLen;omega
 case c5=>omega
 case c6=>simp only [World.size_alloc];omega
 intro v1 w1 hown1 hgrow1
 have HO1:=Hd hown1
 have B1:=Hd (B0.out.below2 ((show Below (w.heap.size+2) _ _ from (belowBox _ _).mono B0.out.size).grown hgrow1 (by simp only [World.size_alloc];omega) (by intro k hk;simp [Value.ownBlock] at hk;omega)))
 have hs1:=B1.out.size
 clear hown1 hgrow1 b0 b1 b2
 go_wp2_with (at_builtin;refine wpList_append_src rfl _ _ 94 rfl (w.heap.size+2) 163 i0 (.agg #[.string ⟨#[]⟩,.int .i64 0]) 2 24 Tryz.underlying94 HI.out HZ0.out HZ1.out HZ2.out rfl (by decide) _ _ _ rfl (HO1.out.alloc _) (some ⟨w1.heap.size,0,none⟩) 1 1 [.string s,.int .i64 n] rfl rfl (src_new w1 [.string s,.int .i64 n] 163 1) ?e3 ?e4 ?e5 ?e6 ?_)
 case e3=>intro u hu;simp only [List.mem_cons,List.mem_nil_iff,or_false] at hu;rcases hu with rfl | rfl<;>rfl
 case e4=>unfold maxLen;omega
 case e5=>omega
 case e6=>rw [World.size_alloc];omega
 intro v2 w2 hown2 hgrow2
 have HO2:=Hd hown2
 have B2:=Hd (B1.out.below2 ((show Below (w.heap.size+2) _ _ from (belowBox w1 _).mono hs1).grown hgrow2 (by rw [World.size_alloc];omega) (fun k hk=>(HO1.out.lt k hk).1)))
 have hs2:=B2.out.size
 clear hown2 hgrow2
 obtain ⟨g2,c2,rfl,_,_,hn2⟩:=sgs_own (l:=d.gs++[(s,n)]) (lo:=w.heap.size+2) (by simpa [HNG.out] using HO2.out) (Nat.le_refl _)
 have N2:=Hd hn2
 obtain ⟨m2,hm2⟩:∃ m,(d.gs++[(s,n)]).length=m:=⟨_,rfl⟩
 have HM2:=Hd hm2
 rw [hm2]
 have b0:=B2.out.row.get0 (j:=0) (v:=.slice va nv vc) rfl
 have b1:=B2.out.row.get0 (j:=1) (v:=.slice la nl lc) rfl
 clear hn2 hm2 HO2
 go_wp2_with (refine wpList_store_row rfl 96 _ _ rfl (w.heap.size+1) #[.slice va nv vc,.slice la nl lc,.slice g2 m2 c2] rfl rfl 96 _ B2.out.out (by kernel_rfl) rfl (one3 ..) ?_)
 have HSET:=Hd (Box2E.set (n:=3) ⟨_,rfl,B2.out⟩ [.slice va nv vc,.slice la nl lc,.slice g2 m2 c2])
 have HSZ:=Hd (show (w2.setRow (w.heap.size+1) #[.slice va nv vc,.slice la nl lc,.slice g2 m2 c2]).heap.size=w2.heap.size by simp)
 refine bodyPost_ret (results_cell_row rfl _ _ (w.heap.size+1) 96 _ (0,0) _ rfl HSET.out.out Tryz.underlying96 rfl (by kernel_rfl)) rfl ?_
 have hlow:∀ u,Below w.heap.size w u→Kept lo B w u:=fun u hu=>Kept.of_below (hu.mono hB)
 have HV2:=(HV.out.keep (hlow _ HSET.out.low))
 have HL2:=(HL.out.keep (hlow _ HSET.out.low))
 have hsz:=HSET.out.size
 refine ⟨[.slice va nv vc,.slice la nl lc,.slice g2 m2 c2],rfl,⟨va,la,g2,vc,lc,c2,by rw [HM2.out,HNV.out,HNL.out],HV2.mono (by omega),HL2.mono (by omega),?_,?_,?_,?_⟩,HSET.out.low⟩
 ·have h1:=(N2.out.keep (kept_row (w:=w) #[.slice va nv vc,.slice la nl lc,.slice g2 m2 c2] (.inr (Nat.le_refl _)))).less (show lo≤w.heap.size+2 by omega)
  exact h1.mono (Nat.le_of_eq HSZ.out.symm)
 ·have:=K1.out
  show d.vs.length≤C+1
  omega
 ·have:=K2.out
  show d.ls.length≤C+1
  omega
 ·have:=K3.out
  rw [List.length_append]
  show d.gs.length+1≤C+1
  omega
end Go.Proofs.YticpebgjbfanpaaGreatDoor
