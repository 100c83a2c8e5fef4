/- Names in a row, pairs in a row, scopes: how they lie in memory; appending to an own row. -/
import Derived.Test.YtiefeajappjnbaaGreatDoorGD
import Derived.Laws.AppendOwn
import Derived.Laws.Rows
import Derived.Test.YtiefeajappjnbaaGreatDoorHO
import Derived.Test.YtiefeajappjnbaaGreatDoorGA
import Derived.Sort.Walk0
import Derived.Test.YtiefeajappjnbaaGreatDoorGI
import Derived.Deep.RegionHeld3
namespace Go.Proofs.YtiefeajappjnbaaGreatDoor
open Go.RowKit
def a7 (lo B:Nat) (w w':World):Prop:=∀ k,lo≤k→k<B→w'.heap[k]?=w.heap[k]?
theorem a7.of_below {lo B:Nat} {w w':World} (h:Below B w w'):a7 lo B w w':=fun k _ hk=>h.block k hk
theorem a7.cell {lo B b o:Nat} {w w':World} (h:a7 lo B w w') (h1:lo≤b) (h2:b<B):w'.cell? ⟨b,o,none⟩=w.cell? ⟨b,o,none⟩:=by
 simp only [World.cell?]
 rw [h b h1 h2]
def bW (w:World) (lo B:Nat) (l:List ByteArray) (a:Option Addr):Prop :=
 l=[]∨∃ b,a=some ⟨b,0,none⟩∧lo≤b∧b<B∧∀ (j:Nat) x,l[j]?=some x→w.cell? ⟨b,j,none⟩=some (.string x)
theorem bW.keep {w w':World} {lo B:Nat} {l:List ByteArray} {a:Option Addr} (h:bW w lo B l a) (hk:a7 lo B w w'):bW w' lo B l a:=by
 rcases h with h | ⟨b,h1,h2,h3,h4⟩
 ·exact .inl h
 ·exact .inr ⟨b,h1,h2,h3,fun j x hx=>(hk.cell h2 h3).trans (h4 j x hx)⟩
theorem bW.mono {w:World} {lo B B':Nat} {l:List ByteArray} {a:Option Addr} (h:bW w lo B l a) (hB:B≤B'):bW w lo B' l a:=by
 rcases h with h | ⟨b,h1,h2,h3,h4⟩
 ·exact .inl h
 ·exact .inr ⟨b,h1,h2,Nat.lt_of_lt_of_le h3 hB,h4⟩
theorem bW.less {w:World} {lo lo' B:Nat} {l:List ByteArray} {a:Option Addr} (h:bW w lo B l a) (hl:lo'≤lo):bW w lo' B l a:=by
 rcases h with h | ⟨b,h1,h2,h3,h4⟩
 ·exact .inl h
 ·exact .inr ⟨b,h1,Nat.le_trans hl h2,h3,h4⟩
theorem bW.get {w:World} {lo B:Nat} {l:List ByteArray} {a:Option Addr} (h:bW w lo B l a) (hn:l≠[]):∃ b,a=some ⟨b,0,none⟩∧lo≤b∧b<B∧∀ (j:Nat) (hj:j<l.length),w.cell? ⟨b,j,none⟩=some (.string l[j]):=by
 rcases h with h | ⟨b,h1,h2,h3,h4⟩
 ·exact absurd h hn
 ·exact ⟨b,h1,h2,h3,fun j hj=>h4 j _ (List.getElem?_eq_getElem hj)⟩
def co (w:World) (lo B:Nat) (l:List (ByteArray×Int)) (a:Option Addr):Prop :=
 l=[]∨∃ b,a=some ⟨b,0,none⟩∧lo≤b∧b<B∧∀ (j:Nat) u,(l.flatMap fun x=>[Value.string x.1,.int .i64 x.2])[j]?=some u→w.cell? ⟨b,j,none⟩=some u
theorem co.keep {w w':World} {lo B:Nat} {l:List (ByteArray×Int)} {a:Option Addr} (h:co w lo B l a) (hk:a7 lo B w w'):co w' lo B l a:=by
 rcases h with h | ⟨b,h1,h2,h3,h4⟩
 ·exact .inl h
 ·exact .inr ⟨b,h1,h2,h3,fun j x hx=>(hk.cell h2 h3).trans (h4 j x hx)⟩
theorem co.mono {w:World} {lo B B':Nat} {l:List (ByteArray×Int)} {a:Option Addr} (h:co w lo B l a) (hB:B≤B'):co w lo B' l a:=by
 rcases h with h | ⟨b,h1,h2,h3,h4⟩
 ·exact .inl h
 ·exact .inr ⟨b,h1,h2,Nat.lt_of_lt_of_le h3 hB,h4⟩
theorem co.less {w:World} {lo lo' B:Nat} {l:List (ByteArray×Int)} {a:Option Addr} (h:co w lo B l a) (hl:lo'≤lo):co w lo' B l a:=by
 rcases h with h | ⟨b,h1,h2,h3,h4⟩
 ·exact .inl h
 ·exact .inr ⟨b,h1,Nat.le_trans hl h2,h3,h4⟩
theorem sy (l:List (ByteArray×Int)):(l.flatMap fun x=>[Value.string x.1,.int .i64 x.2]).length=l.length * 2:=by
 induction l with
 | nil=>rfl
 | cons x r ih=>rw [List.flatMap_cons,List.length_append,ih,List.length_cons];simp;omega
theorem sA (l:List (ByteArray×Int)):∀ (j:Nat) (h:j<l.length),(l.flatMap fun x=>[Value.string x.1,.int .i64 x.2])[j * 2]?=some (.string l[j].1)∧(l.flatMap fun x=>[Value.string x.1,.int .i64 x.2])[j * 2+1]?=some (.int .i64 l[j].2):=by
 induction l with
 | nil=>intro j h;simp at h
 | cons x r ih =>
   intro j h
   cases j with
   | zero=>simp
   | succ j =>
     have:=ih j (by simpa using h)
     rw [List.flatMap_cons]
     simp only [List.getElem_cons_succ]
     rw [show (j+1) * 2=j * 2+1+1 by omega]
     exact ⟨by simpa using this.1,by simpa using this.2⟩
theorem co.get {w:World} {lo B:Nat} {l:List (ByteArray×Int)} {a:Option Addr} (h:co w lo B l a) (hn:l≠[]) :
 ∃ b,a=some ⟨b,0,none⟩∧lo≤b∧b<B∧∀ (j:Nat) (hj:j<l.length),w.cell? ⟨b,j * 2,none⟩=some (.string l[j].1)∧w.cell? ⟨b,j * 2+1,none⟩=some (.int .i64 l[j].2):=by
 rcases h with h | ⟨b,h1,h2,h3,h4⟩
 ·exact absurd h hn
 ·exact ⟨b,h1,h2,h3,fun j hj=>⟨h4 _ _ (sA l j hj).1,h4 _ _ (sA l j hj).2⟩⟩
theorem xj:(Tryz.prog.info? 9).map (fun i=>(i.zero,i.size,i.bytes))=some (some (.string ⟨#[]⟩),1,16):=by kernel_rfl
theorem zD {w':World} {lo base:Nat} {v:Value} {l:List ByteArray} (h:w'.ownsRow base 9 1 v l.length (l.map .string)) (hlo:lo≤base):∃ a c,v=.slice a l.length c∧l.length≤c∧c≤maxLen∧bW w' lo w'.heap.size l a:=by
 have h0:=h
 rcases h.2 with ⟨rfl,hz⟩ | ⟨g,cap,cur,rfl,hg,hh,hn,hm,hs,ht⟩
 ·obtain rfl:=List.length_eq_zero_iff.1 hz
  exact ⟨none,0,rfl,Nat.le_refl _,by unfold maxLen;omega,.inl rfl⟩
 ·refine ⟨_,_,rfl,hn,hm,.inr ⟨g,rfl,Nat.le_trans hlo hg,(Array.getElem?_eq_some_iff.1 hh).1,fun j x hx=>?_⟩⟩
  have:=h0.cells (g:=g) rfl j (.string x) (by rw [List.getElem?_map,hx];rfl)
  rw [bP,Nat.zero_add] at this
  exact this
theorem n5 {w':World} {lo base:Nat} {t:TypeId} {v:Value} {l:List (ByteArray×Int)} (h:w'.ownsRow base t 2 v l.length (l.flatMap fun x=>[Value.string x.1,.int .i64 x.2])) (hlo:lo≤base) :
 ∃ a c,v=.slice a l.length c∧l.length≤c∧c≤maxLen∧co w' lo w'.heap.size l a:=by
 have h0:=h
 rcases h.2 with ⟨rfl,hz⟩ | ⟨g,cap,cur,rfl,hg,hh,hn,hm,hs,ht⟩
 ·obtain rfl:=List.length_eq_zero_iff.1 hz
  exact ⟨none,0,rfl,Nat.le_refl _,by unfold maxLen;omega,.inl rfl⟩
 ·refine ⟨_,_,rfl,hn,hm,.inr ⟨g,rfl,Nat.le_trans hlo hg,(Array.getElem?_eq_some_iff.1 hh).1,fun j x hx=>?_⟩⟩
  have:=h0.cells (g:=g) rfl j x hx
  rw [bP,Nat.zero_add] at this
  exact this
def kb (w:World) (a:Option Addr) (m:Nat) (news:List Value):Prop:=(a=none→m=0)∧∀ ad,a=some ad→∀ j u,news[j]?=some u→w.cell? (ad.add j)=some u
theorem bW.src {w:World} {lo B:Nat} {l:List ByteArray} {a:Option Addr} (h:bW w lo B l a):kb w a l.length (l.map .string):=by
 rcases h with rfl | ⟨b,rfl,h2,h3,h4⟩
 ·exact ⟨fun _=>rfl,fun ad _ j u hu=>by simp at hu⟩
 ·refine ⟨fun h=>(by cases h),fun ad e j u hu=>?_⟩
  cases e
  rw [List.getElem?_map] at hu
  obtain ⟨x,hx,rfl⟩:=Option.map_eq_some_iff.1 hu
  rw [bP,Nat.zero_add]
  exact h4 j x hx
theorem co.src {w:World} {lo B:Nat} {l:List (ByteArray×Int)} {a:Option Addr} (h:co w lo B l a):kb w a l.length (l.flatMap fun x=>[Value.string x.1,.int .i64 x.2]):=by
 rcases h with rfl | ⟨b,rfl,h2,h3,h4⟩
 ·exact ⟨fun _=>rfl,fun ad _ j u hu=>by simp at hu⟩
 ·refine ⟨fun h=>(by cases h),fun ad e j u hu=>?_⟩
  cases e
  rw [bP,Nat.zero_add]
  exact h4 j u hu
theorem dh (w:World) (cs:List Value) (t:TypeId) (m:Nat):kb (w.alloc (.cells cs.toArray t)) (some ⟨w.heap.size,0,none⟩) m cs:=by
 refine ⟨fun h=>(by cases h),fun ad e j u hu=>?_⟩
 cases e
 rw [bP,World.cell?_alloc_new]
 simpa using hu
theorem gZ {P:Program} (w:World) (base:Nat) (t ty e:TypeId) (i:TypeInfo) (size:Nat) (ht:P.underlying t=some (.slice e)) (hi:P.info? e=some i)
 (v:Value) (n:Nat) (xs:List Value) (hown:w.ownsRow base e size v n xs) (c:Nat):(Builtin.append_ #[t,t] ty #[v,.slice none 0 c]).run P w=.ok v w:=by
 rcases hown.2 with ⟨rfl,rfl⟩ | ⟨g,cap,cur,rfl,_,_,hnc,_⟩
 ·simp [Builtin.append_,run_underlying ht,sizeOf,typeInfo,hi,Builtin.lenOf,Builtin.firstCells]
 ·simp [Builtin.append_,run_underlying ht,sizeOf,typeInfo,hi,Builtin.lenOf,Builtin.firstCells,hnc,storeCells]
theorem jE {P:Program} {w:World} {ops:Array Oper} {rest:List Oper} {o:Oper} {a:Act} {Q:Exit→Act→World→Prop} (hgd:o.guard=none) (s x:Operand) (t:TypeId)
 (ho:o.op=.call { callee:=.builtin .append,args:=#[s,x],argTypes:=#[t,t] })
 (base:Nat) (e:TypeId) (i:TypeInfo) (size:Nat) (ht:P.underlying t=some (.slice e)) (hi:P.info? e=some i)
 (v:Value) (n:Nat) (xs:List Value) (hs:a.eval s=v) (hown:w.ownsRow base e size v n xs) (c:Nat) (hx:a.eval x=.slice none 0 c)
 (h:wpList P ops Q rest (a.put o.dst v) w):wpList P ops Q (o::rest) a w:=by
 refine wpList_plain hgd fun K hK=>?_
 have hrun:=gZ (P:=P) w base t o.type e i size ht hi v n xs hown c
 unfold Oper.wp
 simp [execOp,ho,resolve,invoke,builtin,hs,hx,hrun,Result.andThen]
 exact hK _ _ h
theorem aU {P:Program} {w:World} {ops:Array Oper} {rest:List Oper} {o:Oper} {a:Act} {Q:Exit→Act→World→Prop} (hgd:o.guard=none) (s x:Operand) (t:TypeId)
 (ho:o.op=.call { callee:=.builtin .append,args:=#[s,x],argTypes:=#[t,t] })
 (base:Nat) (e:TypeId) (i:TypeInfo) (z:Value) (size bytes:Nat) (ht:P.underlying t=some (.slice e)) (hi:P.info? e=some i) (hz:i.zero=some z)
 (hsize:i.size=size) (hby:i.bytes=bytes) (hzs:z.cells.size=size) (hsz:0<size)
 (v:Value) (n:Nat) (xs:List Value) (hs:a.eval s=v) (hown:w.ownsRow base e size v n xs)
 (ad:Option Addr) (m c:Nat) (news:List Value) (hx:a.eval x=.slice ad m c) (hl:news.length=m * size) (hsrc:kb w ad m news) (h1:∀ u∈news,u.oneCell'=true)
 (h63:n+m≤maxLen) (hbytes:(n+m) * bytes≤140737488355328) (hbase:base≤w.heap.size)
 (h:∀ v' w',w'.ownsRow base e size v' (n+m) (xs++news)→w.grownBy w' v.ownBlock→wpList P ops Q rest (a.put o.dst v') w'):wpList P ops Q (o::rest) a w:=by
 cases ad with
 | none =>
   obtain rfl:=hsrc.1 rfl
   obtain rfl:news=[]:=List.length_eq_zero_iff.1 (by omega)
   refine jE hgd s x t ho base e i size ht hi v n xs hs hown c hx ?_
   exact h v w (by simpa using hown) ⟨rfl,rfl,rfl,Nat.le_refl _,fun _ _ _=>rfl⟩
 | some ad=>exact wpList_append_own _ hgd s x t ho base e i z size bytes ht hi hz hsize hby hzs hsz v n xs hs hown ad m c news hx hl (hsrc.2 ad rfl) h1 h63 hbytes hbase (fun v' w' h2 h3 _=>h v' w' h2 h3)
structure ScD where
 vs:List ByteArray
 ls:List ByteArray
 gs:List (ByteArray×Int)
def ScD.At (w:World) (lo B K:Nat) (d:ScD) (cs:List Value):Prop :=
 ∃ va la ga vc lc gc,cs=[.slice va d.vs.length vc,.slice la d.ls.length lc,.slice ga d.gs.length gc]∧bW w lo B d.vs va∧bW w lo B d.ls la∧co w lo B d.gs ga∧d.vs.length≤K∧d.ls.length≤K∧d.gs.length≤K
theorem ScD.At.keep {w w':World} {lo B K:Nat} {d:ScD} {cs:List Value} (h:ScD.At w lo B K d cs) (hk:a7 lo B w w'):ScD.At w' lo B K d cs:=by
 obtain ⟨va,la,ga,vc,lc,gc,h0,h1,h2,h3,h4⟩:=h
 exact ⟨va,la,ga,vc,lc,gc,h0,h1.keep hk,h2.keep hk,h3.keep hk,h4⟩
theorem ScD.At.mono {w:World} {lo B B' K K':Nat} {d:ScD} {cs:List Value} (h:ScD.At w lo B K d cs) (hB:B≤B') (hK:K≤K'):ScD.At w lo B' K' d cs:=by
 obtain ⟨va,la,ga,vc,lc,gc,h0,h1,h2,h3,h4,h5,h6⟩:=h
 exact ⟨va,la,ga,vc,lc,gc,h0,h1.mono hB,h2.mono hB,h3.mono hB,by omega,by omega,by omega⟩
theorem ScD.At.len {w:World} {lo B K:Nat} {d:ScD} {cs:List Value} (h:ScD.At w lo B K d cs):cs.length=3:=by
 obtain ⟨_,_,_,_,_,_,rfl,_⟩:=h;rfl
theorem ScD.At.nil (w:World) (lo B K:Nat):ScD.At w lo B K ⟨[],[],[]⟩ [.slice none 0 0,.slice none 0 0,.slice none 0 0]:=⟨none,none,none,0,0,0,rfl,.inl rfl,.inl rfl,.inl rfl,Nat.zero_le _,Nat.zero_le _,Nat.zero_le _⟩
end Go.Proofs.YtiefeajappjnbaaGreatDoor

/- Free variables of an expression: plain functions and their laws. No program here. -/
namespace Go.Proofs.YtiefeajappjnbaaGreatDoor
open Go.RowKit
def ni (l:List aZ):List ByteArray:=(l.filter (·.value)).map (·.name)
def iV (l:List ByteArray) (s:ByteArray):Bool:=l.any fun t=>t.toList==s.toList
def uE (op:Int) (nm:ByteArray) (i:Nat):List ByteArray:=if (op=22∧i=1)∨(op=19∧i=2)∨(op=20∧2≤i) then [nm] else []
theorem rd (l:List aZ) {k:Nat} (h:k<l.length):ni (l.take (k+1))=ni (l.take k)++(if l[k].value then [l[k].name] else []):=by
 unfold ni
 rw [← List.take_append_getElem h,List.filter_append,List.map_append]
 congr 1
 cases hv:l[k].value<;>simp [hv]
def qdE (e:ag):Prop:=(e.op=19→e.args.length≤3)∧e.val.bytes=[]∧e.val.list=[]∧e.val.fields=[]
def gdE:Nat→ag→Prop
 | 0,e=>qdE e∧e.args=[]∧e.funcs=[]
 | m+1,e=>qdE e∧(∀ a∈e.args,gdE m a)∧∀ f∈e.funcs,gdE m f.body
theorem xB (m:Nat) {e:ag} (hq:qdE e) (ha:e.args=[]) (hf:e.funcs=[]):gdE m e:=by
 cases m with
 | zero=>exact ⟨hq,ha,hf⟩
 | succ m=>exact ⟨hq,by rw [ha];simp,by rw [hf];simp⟩
theorem A3 {m:Nat} {e:ag} (h:gdE m e):qdE e:=by
 cases m with
 | zero=>exact h.1
 | succ m=>exact h.1
theorem lw {v:ar} (h:bj v=true):v.bytes=[]∧v.list=[]∧v.fields=[]:=by
 obtain ⟨_,_,_,_,_,h5,h6,h7⟩:=of_decide_eq_true h
 exact ⟨List.length_eq_zero_iff.1 h5,List.length_eq_zero_iff.1 h6,List.length_eq_zero_iff.1 h7⟩
theorem Av {v:ar} (h:dJ v=0):fO v=true:=by
 cases ho:fO v
 ·exfalso
  have h1:(bf 48 v 0).2=0:=h
  rw [show bf 48 v 0=(if 65536≤(0:Int) then (0,10) else if du v=0 then cX (bf 47) (ca v) (0+1) else (0,du v)) from rfl,if_neg (by decide),oo ho,if_neg (by decide)] at h1
  exact absurd h1 (by decide)
 ·rfl
theorem uy {v:ar} (h:dJ v=0) (hl:jo v=true):v.bytes=[]∧v.list=[]∧v.fields=[]:=by
 obtain ⟨_,_,_,_,_,_,h5,h6,h7⟩:=of_decide_eq_true (Av h)
 have hk:=of_decide_eq_true hl
 exact ⟨List.length_eq_zero_iff.1 (h5 (by omega)),List.length_eq_zero_iff.1 (h6 (by omega)),List.length_eq_zero_iff.1 (h7 (by omega))⟩
theorem te {e:ag} (hf:bh e=true) (hc:e.op=3→dJ e.val=0):qdE e:=by
 obtain ⟨_,_,hn,_,_,_,_,_,hz,_,_,hl,_⟩:=of_decide_eq_true hf
 refine ⟨fun h=>?_,?_⟩
 ·have:=hn (by rw [h];decide)
  rw [h] at this
  have h3:bT 19=3:=by decide
  omega
 ·by_cases h3:e.op=3
  ·exact uy (hc h3) (hl h3)
  ·rcases hz with hz | hz
   ·exact absurd hz h3
   ·exact lw hz
theorem yI {x:ag} (h:bh x=true) {u:ag} (hu:u∈x.args) (ho:u.op=30):qdE u:=by
 obtain ⟨_,_,_,_,_,ha,_⟩:=of_decide_eq_true h
 obtain ⟨i,hi,rfl⟩:=List.getElem_of_mem hu
 unfold eN at ha
 rw [List.all_eq_true] at ha
 have h1:=of_decide_eq_true (ha i (by simpa using hi))
 simp only [List.getD_eq_getElem?_getD,List.getElem?_eq_getElem hi,Option.getD_some] at h1
 obtain ⟨_,h2⟩:=h1 ho
 obtain ⟨_,_,hz,_,_⟩:=of_decide_eq_true h2
 exact ⟨fun h=>by omega,lw hz⟩
theorem nx (idB:ByteArray→Bool) (rgB:ag→Bool):∀ (m:Nat) (x:ag) (s y:Int),aV idB rgB (m+1) x s=(y,0)→gdE m x:=by
 intro m
 induction m with
 | zero =>
   intro x s y h
   obtain ⟨ha,hf⟩:=(eX idB rgB 0 x s y h).1
   refine ⟨?_,ha,hf⟩
   rw [aV] at h
   split at h
   ·simp at h
   split at h
   ·simp at h
   split at h
   ·rename_i hc;simp at h;exact absurd h.2 hc.2
   rename_i hfb hc
   exact te (by simpa using hfb) (fun h3=>by
    rcases Classical.em (dJ x.val=0) with h4 | h4
    ·exact h4
    ·exact absurd ⟨h3,h4⟩ hc)
 | succ m ih =>
   intro x s y h'
   rw [aV] at h'
   split at h'
   ·simp at h'
   split at h'
   ·simp at h'
   split at h'
   ·rename_i hc;simp at h';exact absurd h'.2 hc.2
   split at h'
   ·simp at h'
   split at h'
   ·simp at h'
   split at h'
   ·rename_i hh;rw [h'] at hh;exact absurd rfl hh
   ·rename_i hfb hc _ _ h2
    have hfb':bh x=true:=by simpa using hfb
    have hq:qdE x:=te hfb' (fun h3=>by
     rcases Classical.em (dJ x.val=0) with h4 | h4
     ·exact h4
     ·exact absurd ⟨h3,h4⟩ hc)
    have h3:=Classical.not_not.1 h2
    obtain ⟨p,q,hpq⟩:∃ p q,cF idB (aV idB rgB (m+1)) [] x.funcs (s+1)=(p,q):=⟨_,_,rfl⟩
    rw [hpq] at h3 h'
    obtain rfl:q=0:=h3
    have ih2:∀ x s y,aV idB rgB (m+1) x s=(y,0)→gdE m x∧y=s+ndE m x:=fun x s y h=>⟨ih x s y h,(eX idB rgB m x s y h).2⟩
    obtain ⟨f1,_⟩:=fe idB (aV idB rgB (m+1)) (gdE m) (ndE m) ih2 x.funcs [] (s+1) p hpq
    obtain ⟨k1,_⟩:=eY (m+1) (aV idB rgB (m+1)) (gdE m) (ndE m) ih2 x.args _ y (fun u hu ho _=>by
     obtain ⟨a1,a2⟩:=jW hfb' hu ho
     exact ⟨xB m (yI hfb' hu ho) a1 a2,jO m a1 a2⟩) h'
    exact ⟨hq,k1,f1⟩
end Go.Proofs.YtiefeajappjnbaaGreatDoor

/- The reference's lists of names (datakitref38.more, has, insert). -/
namespace Go.Proofs.YtiefeajappjnbaaGreatDoor
open Go.RowKit
def yM (lo:Nat) (l:List ByteArray) (w:World) (e:Ending) (w':World):Prop:=∃ (a:Option Addr) (c:Nat),e=.returned (.slice a l.length c)∧l.length≤c∧c≤maxLen∧bW w' lo w'.heap.size l a∧Below w.heap.size w w'
theorem sL {lo:Nat} {l:List ByteArray} {w w':World} {v:Value} {n:Nat} {xs:List Value} (h:w'.ownsRow w.heap.size 9 1 v n xs) (hlo:lo≤w.heap.size) (hn:n=l.length) (hx:xs=l.map .string) (hb:Below w.heap.size w w'):yM lo l w (.returned v) w':=by
 subst hn hx
 obtain ⟨a,c,rfl,h1,h2,h3⟩:=zD h hlo
 exact ⟨a,c,rfl,h1,h2,h3,hb⟩
theorem kN {w w1 w2:World} {row:Option Nat} {o:Obj} (hb:Below w.heap.size w w1) (h:(w1.alloc o).grownBy w2 row) (hr:∀ k,row=some k→w.heap.size≤k):Below w.heap.size w w2 :=
 (hb.alloc hb.size o).grown h (by have:=hb.size;simp;omega) hr
theorem zE (l:List ByteArray):∀ u∈l.map Value.string,u.oneCell'=true:=fun u hu=>by obtain ⟨x,_,rfl⟩:=List.mem_map.1 hu;rfl
set_option maxRecDepth 100000 in
set_option maxHeartbeats 1600000 in
theorem Bz (l:List ByteArray) (s:ByteArray) (a:Option Addr) (c:Nat) (w:World) (lo1 lo B:Nat) (hl:l.length≤1099511627776) (hB:B≤w.heap.size) (hlo:lo≤w.heap.size) (h:bW w lo1 B l a) :
 Calls Tryz.prog 174 #[.slice a l.length c,.string s] w (yM lo (l++[s]) w):=by
 obtain ⟨i0,hi,hz0,hz1,hz2⟩:=info_parts xj
 have HI:=Hd hi
 have HZ0:=Hd hz0
 have HZ1:=Hd hz1
 have HZ2:=Hd hz2
 have HA:=Hd h
 clear hi hz0 hz1 hz2 h
 go_enter Tryz.func174,Tryz.ntmps174
 go_wp2_with (at_builtin;refine aU rfl _ _ 86 rfl w.heap.size 9 i0 (.string ⟨#[]⟩) 1 16 Tryz.underlying86 HI.out HZ0.out HZ1.out HZ2.out rfl (by decide) _ _ _ rfl (World.ownsRow_made w #[] 0 (Nat.le_refl _) (Nat.zero_le _) rfl) a l.length c (l.map .string) rfl ?c1 ?c2 (zE l) ?c4 ?c5 ?c6 ?_)
 case c1=>simp
 case c2=>exact (HA.out.keep (a7.of_below ((af w _).mono hB))).src
 case c4=>unfold maxLen;omega
 case c5=>omega
 case c6=>simp
 intro v1 w1 hown1 hgrow1
 have HO1:=Hd hown1
 have HB1:=Hd (show Below w.heap.size w w1 from (af w _).grown hgrow1 (by simp) (by intro k hk;simp [Value.ownBlock] at hk;omega))
 clear hown1 hgrow1
 go_wp2_with (at_builtin;refine aU rfl _ _ 86 rfl w.heap.size 9 i0 (.string ⟨#[]⟩) 1 16 Tryz.underlying86 HI.out HZ0.out HZ1.out HZ2.out rfl (by decide) _ _ _ rfl (HO1.out.alloc _) (some ⟨w1.heap.size,0,none⟩) 1 1 [.string s] rfl rfl (dh w1 [.string s] 9 1) ?c3 ?c4 ?c5 ?c6 ?_)
 case c3=>intro u hu;simp at hu;subst hu;rfl
 case c4=>unfold maxLen;omega
 case c5=>omega
 case c6=>have:=HB1.out.size;simp;omega
 intro v2 w2 hown2 hgrow2
 have HB2:=Hd (kN HB1.out hgrow2 (fun k hk=>(HO1.out.lt k hk).1))
 have HO2:=Hd hown2
 clear hown2 hgrow2
 go_wp2
 go_ret
 exact sL HO2.out hlo (by simp) (by simp) HB2.out
theorem wJ {l:List ByteArray} {s:ByteArray} (h:∀ j (hj:j<l.length),(l[j].toList==s.toList)=false):iV l s=false:=by
 unfold iV
 rw [List.any_eq_false]
 intro t ht
 obtain ⟨j,hj,rfl⟩:=List.getElem_of_mem ht
 rw [h j hj];simp
theorem wI {l:List ByteArray} {s:ByteArray} {j:Nat} (hj:j<l.length) (h:(l[j].toList==s.toList)=true):iV l s=true:=by
 unfold iV
 rw [List.any_eq_true]
 exact ⟨l[j],List.getElem_mem hj,h⟩
set_option maxRecDepth 100000 in
theorem AZ (l:List ByteArray) (s:ByteArray) (a:Option Addr) (c:Nat) (w:World) (lo B:Nat) (hl:l.length≤1099511627776) (h:bW w lo B l a) :
 Calls Tryz.prog 170 #[.slice a l.length c,.string s] w (fun e w'=>e=.returned (.bool (iV l s))∧w=w'):=by
 have HA:=Hd h
 clear h
 go_enter Tryz.func170,Tryz.ntmps170
 go_wp2_with fail
 go_simp
 go_loopw [5] (fun i wr=>∃ k:Nat,k≤l.length∧i=.int .i64 k∧Hid (∀ j (hj:j<l.length),j<k→(l[j].toList==s.toList)=false)∧wr=w) (fun i _=>l.length-(intOf i).toNat)
 case atStart=>exact ⟨0,by omega,rfl,Hd (fun j _ hj=>absurd hj (by omega)),rfl⟩
 case round =>
  obtain ⟨k,hk,rfl,HN,rfl⟩:=hrel
  by_cases hlt:k<l.length
  ·obtain ⟨b,rfl,_,_,hget⟩:=HA.out.get (by intro h;simp [h] at hlt)
   have e0:=hget k hlt
   clear hget
   cases he:(l[k].toList==s.toList)
   ·have HN2:=Hd (show ∀ j (hj:j<l.length),j<k+1→(l[j].toList==s.toList)=false from fun j hj hjk=>by
     by_cases hjk2:j=k
     ·subst hjk2;exact he
     ·exact HN.out j hj (by omega))
    go_wp2_with fail
    go_roundw
    case rel=>exact ⟨k+1,by omega,by go_num,HN2,trivial⟩
    case measure=>simp [intOf];omega
   ·have HR:=Hd (wI hlt he)
    go_wp2_with fail
    go_ret
    exact ⟨am HR.out.symm,rfl⟩
  ·have HR:=Hd (wJ (l:=l) (s:=s) fun j hj=>HN.out j hj (by omega))
   go_wp2_with fail
   go_ret
   exact ⟨am HR.out.symm,rfl⟩
end Go.Proofs.YtiefeajappjnbaaGreatDoor

/- The reference's scopes (datakitref38.scope's methods). -/
namespace Go.Proofs.YtiefeajappjnbaaGreatDoor
open Go.RowKit
def ScR (lo K:Nat) (d:ScD) (w:World) (e:Ending) (w':World):Prop:=∃ cs,e=.returned (.agg cs.toArray)∧ScD.At w' lo w'.heap.size K d cs∧Below w.heap.size w w'
structure iz (w u:World) (cs zs:List Value) (t:TypeId):Prop where
 row:aj u w.heap.size 0 cs
 out:u.heap[w.heap.size+1]?=some (.cells zs.toArray t (0,0))
 low:Below w.heap.size w u
 size:w.heap.size+2≤u.heap.size
theorem iz.start (w:World) (cs zs:List Value) (t1 t:TypeId):iz w ((w.alloc (.cells cs.toArray t1)).alloc (.cells zs.toArray t)) cs zs t:=by
 refine ⟨(aA w cs t1).then (af _ _) (by rw [World.size_alloc];omega),?_,ae (af w _) (af _ _),by simp only [World.size_alloc];omega⟩
 have h:=heap_alloc_new (w.alloc (.cells cs.toArray t1)) (.cells zs.toArray t)
 rw [World.size_alloc] at h
 exact h
theorem iz.below {w u u':World} {cs zs:List Value} {t:TypeId} (h:iz w u cs zs t) (hb:Below u.heap.size u u'):iz w u' cs zs t :=
 ⟨h.row.then hb (by have:=h.size;omega),(hb.block _ (by have:=h.size;omega)).trans h.out,ae h.low hb,Nat.le_trans h.size hb.size⟩
theorem iz.below2 {w u u':World} {cs zs:List Value} {t:TypeId} (h:iz w u cs zs t) (hb:Below (w.heap.size+2) u u'):iz w u' cs zs t :=
 ⟨h.row.below hb (by omega),(hb.block _ (by omega)).trans h.out,h.low.trans (hb.mono (by omega)),Nat.le_trans h.size hb.size⟩
theorem iz.drew {w u:World} {cs zs:List Value} {t:TypeId} (h:iz w u cs zs t):iz w u.drew cs zs t:=h.below ⟨rfl,rfl,rfl,Nat.le_refl _,fun _ _=>rfl⟩
def eP (w u:World) (cs:List Value) (n:Nat) (t:TypeId):Prop:=∃ zs:List Value,zs.length=n∧iz w u cs zs t
theorem eP.below {w u u':World} {cs:List Value} {n:Nat} {t:TypeId} (h:eP w u cs n t) (hb:Below u.heap.size u u'):eP w u' cs n t:=by
 obtain ⟨zs,hz,h⟩:=h
 exact ⟨zs,hz,h.below hb⟩
theorem eP.row {w u:World} {cs:List Value} {n:Nat} {t:TypeId} (h:eP w u cs n t):aj u w.heap.size 0 cs:=by
 obtain ⟨zs,hz,h⟩:=h
 exact h.row
theorem eP.low {w u:World} {cs:List Value} {n:Nat} {t:TypeId} (h:eP w u cs n t):Below w.heap.size w u:=by
 obtain ⟨zs,hz,h⟩:=h
 exact h.low
theorem eP.size {w u:World} {cs:List Value} {n:Nat} {t:TypeId} (h:eP w u cs n t):w.heap.size+2≤u.heap.size:=by
 obtain ⟨zs,hz,h⟩:=h
 exact h.size
theorem eP.set {w u:World} {cs:List Value} {n:Nat} {t:TypeId} (h:eP w u cs n t) (ds:List Value):iz w (u.setRow (w.heap.size+1) ds.toArray) cs ds t:=by
 obtain ⟨zs,hz,h⟩:=h
 have hk:∀ k,k≠w.heap.size+1→(u.setRow (w.heap.size+1) ds.toArray).heap[k]?=u.heap[k]?:=fun k hk=>setRow_other _ _ _ _ (by omega)
 refine ⟨fun j hj=>?_,setRow_heap _ _ _ _ _ _ h.out,below_setRow h.low (by omega) _,by have:=h.size;simpa using this⟩
 rw [← h.row j hj]
 simp only [World.cell?]
 rw [hk _ (by omega)]
theorem uv (a b c:Option Addr) (i j k m n o:Nat):(#[Value.slice a i j,Value.slice b k m,Value.slice c n o]:Array Value).all (·.oneCell')=true :=
 Go.all_oneCell_toArray (cs:=[.slice a i j,.slice b k m,.slice c n o]) (fun v hv=>by
  simp only [List.mem_cons,List.mem_nil_iff,or_false] at hv
  rcases hv with rfl | rfl | rfl<;>rfl)
theorem l4 {w u:World} {lo B:Nat} (cs:Array Value) (h:B≤w.heap.size+1∨w.heap.size+2≤lo):a7 lo B u (u.setRow (w.heap.size+1) cs):=fun k h1 h2=>setRow_other _ _ _ _ (by omega)
theorem wH (l:List ByteArray) (n:Nat) (hn:l.length=n) (s:ByteArray) (a:Option Addr) (c:Nat) (w:World) (lo1 lo B:Nat) (hl:l.length≤1099511627776) (hB:B≤w.heap.size) (hlo:lo≤w.heap.size) (h:bW w lo1 B l a) :
 Calls Tryz.prog 174 #[.slice a n c,.string s] w (yM lo (l++[s]) w):=by
 subst hn
 exact Bz l s a c w lo1 lo B hl hB hlo h
abbrev cn:List Value:=[.slice none 0 0,.slice none 0 0,.slice none 0 0]
set_option maxRecDepth 100000 in
set_option maxHeartbeats 3200000 in
theorem gm (d:ScD) (s:ByteArray) (cs:List Value) (w:World) (lo B C:Nat) (hC:C≤1073741824) (hB:B≤w.heap.size) (hlo:lo≤w.heap.size) (h:ScD.At w lo B C d cs) :
 Calls Tryz.prog 130 #[.agg cs.toArray,.string s] w (ScR lo (C+1) ⟨d.vs++[s],d.ls,d.gs⟩ w):=by
 obtain ⟨va,la,ga,vc,lc,gc,rfl,hv,hls,hg,k1,k2,k3⟩:=h
 have HV:=Hd hv
 have HL:=Hd hls
 have HG:=Hd hg
 obtain ⟨nv,hnv⟩:∃ n,d.vs.length=n:=⟨_,rfl⟩
 obtain ⟨nl,hnl⟩:∃ n,d.ls.length=n:=⟨_,rfl⟩
 obtain ⟨ng,hng⟩:∃ n,d.gs.length=n:=⟨_,rfl⟩
 have HNV:=Hd hnv
 have HNL:=Hd hnl
 have HNG:=Hd hng
 have K1:=Hd k1
 have K2:=Hd k2
 have K3:=Hd k3
 rw [hnv,hnl,hng]
 clear hv hls hg hnv hnl hng k1 k2 k3
 go_enter Tryz.func130,Tryz.ntmps130
 go_wp2_with fail
 have B0:=Hd (iz.start w [.slice va nv vc,.slice la nl lc,.slice ga ng gc] cn 134 134)
 refine wp_region_held_drew (S:=fun u=>eP w u [.slice va nv vc,.slice la nl lc,.slice ga ng gc] 3 134) (by kernel_rfl) ⟨_,rfl,B0.out.drew⟩ (fun hHeld=>?_)
 refine' wpAnyH_take (i:=0) (v:=.pointer (some ⟨w.heap.size,0,none⟩)) rfl (by kernel_rfl) (by kernel_rfl) (by kernel_rfl) (fun _ _ _ h=>h) (.inl ⟨by rfl,fun u hu=>(by go_simp)⟩) hHeld ?_
 simp only [Act.put,List.setIfInBounds_toArray]
 refine' wpAnyH_take (i:=1) (v:=.slice va nv vc) rfl (by kernel_rfl) (by kernel_rfl) (by kernel_rfl) (fun _ _ _ h=>h) (.inl ⟨by rfl,fun u hu=>(by have hc:=hu.row.get0 (j:=0) rfl;go_simp)⟩) hHeld ?_
 simp only [Act.put]
 refine' wpAnyH_take (i:=2) (v:=.string s) rfl (by kernel_rfl) (by kernel_rfl) (by kernel_rfl) (fun _ _ _ h=>h) (.inl ⟨by rfl,fun u hu=>(by go_simp)⟩) hHeld ?_
 simp only [Act.put]
 refine' wpAnyH_take (i:=4) (v:=.pointer (some ⟨w.heap.size,1,none⟩)) rfl (by kernel_rfl) (by kernel_rfl) (by kernel_rfl) (fun _ _ _ h=>h) (.inl ⟨by rfl,fun u hu=>(by go_simp)⟩) hHeld ?_
 simp only [Act.put]
 refine' wpAnyH_take (i:=5) (v:=.slice la nl lc) rfl (by kernel_rfl) (by kernel_rfl) (by kernel_rfl) (fun _ _ _ h=>h) (.inl ⟨by rfl,fun u hu=>(by have hc:=hu.row.get0 (j:=1) rfl;go_simp)⟩) hHeld ?_
 simp only [Act.put]
 refine' wpAnyH_take (i:=6) (v:=.pointer (some ⟨w.heap.size,2,none⟩)) rfl (by kernel_rfl) (by kernel_rfl) (by kernel_rfl) (fun _ _ _ h=>h) (.inl ⟨by rfl,fun u hu=>(by go_simp)⟩) hHeld ?_
 simp only [Act.put]
 refine' wpAnyH_take (i:=7) (v:=.slice ga ng gc) rfl (by kernel_rfl) (by kernel_rfl) (by kernel_rfl) (fun _ _ _ h=>h) (.inl ⟨by rfl,fun u hu=>(by have hc:=hu.row.get0 (j:=2) rfl;go_simp)⟩) hHeld ?_
 simp only [Act.put]
 refine rd1 3 rfl (fun K hK=>?_)
 go_simp
 refine (wH d.vs nv HNV.out s va vc _ lo (w.heap.size+2) B (by have:=K1.out;omega) (Nat.le_trans hB hHeld.low.size) hHeld.size (HV.out.keep (a7.of_below (hHeld.low.mono hB)))).mono ?_
 rintro e u1 ⟨a1,c1,rfl,_,_,hn1,hb1⟩
 have N1:=Hd hn1
 have HB1:=Hd (hHeld.below hb1)
 obtain ⟨m1,hm1⟩:∃ m,(d.vs++[s]).length=m:=⟨_,rfl⟩
 have HM1:=Hd hm1
 rw [hm1]
 refine hK.out _ _ HB1.out (fun hHeld1=>?_)
 clear hK K hHeld hb1 hn1 hm1
 refine rd1 8 rfl (fun K hK=>?_)
 go_simp
 refine hK.out _ _ hHeld1 (fun hHeldx=>?_)
 clear hK K hHeldx
 refine rd1 9 rfl (fun K hK=>?_)
 rw [if_pos (by kernel_rfl)]
 obtain ⟨zs,hzs,hb2⟩:=hHeld1
 refine wp_store_row 134 _ _ rfl (w.heap.size+1) #[.slice a1 m1 c1,.slice la nl lc,.slice ga ng gc] rfl rfl 134 _ hb2.out (by kernel_rfl) (by rw [List.size_toArray,hzs];rfl) (uv ..) ?_
 have hset:=eP.set (n:=3) ⟨zs,hzs,hb2⟩ [.slice a1 m1 c1,.slice la nl lc,.slice ga ng gc]
 have HSET:=Hd hset
 have HSZ:=Hd (show (u1.setRow (w.heap.size+1) #[.slice a1 m1 c1,.slice la nl lc,.slice ga ng gc]).heap.size=u1.heap.size by simp)
 refine hK.out _ _ ⟨_,rfl,hset⟩ (fun _=>?_)
 clear hK K hset
 refine wpAnyH_done (by kernel_rfl) ?_ _
 go_wp2_with fail
 refine bodyPost_ret (results_cell_row rfl _ _ (w.heap.size+1) 134 _ (0,0) _ rfl HSET.out.out Tryz.underlying134 rfl (by kernel_rfl)) rfl ?_
 have hlow:∀ u,Below w.heap.size w u→a7 lo B w u:=fun u hu=>a7.of_below (hu.mono hB)
 have HL2:=(HL.out.keep (hlow _ HSET.out.low))
 have HG2:=(HG.out.keep (hlow _ HSET.out.low))
 have hsz:=HSET.out.size
 refine ⟨[.slice a1 m1 c1,.slice la nl lc,.slice ga ng gc],rfl,⟨a1,la,ga,c1,lc,gc,by rw [HM1.out,HNL.out,HNG.out],?_,HL2.mono (by omega),HG2.mono (by omega),?_,?_,?_⟩,HSET.out.low⟩
 ·have h1:=(N1.out.keep (l4 (w:=w) #[.slice a1 m1 c1,.slice la nl lc,.slice ga ng gc] (.inr (Nat.le_refl _)))).less (show lo≤w.heap.size+2 by omega)
  exact h1.mono (Nat.le_of_eq HSZ.out.symm)
 ·have:=K1.out
  rw [List.length_append]
  show d.vs.length+1≤C+1
  omega
 ·have:=K2.out
  show d.ls.length≤C+1
  omega
 ·have:=K3.out
  show d.gs.length≤C+1
  omega
set_option maxRecDepth 100000 in
set_option maxHeartbeats 3200000 in
theorem zP (d:ScD) (s:ByteArray) (cs:List Value) (w:World) (lo B C:Nat) (hC:C≤1073741824) (hB:B≤w.heap.size) (hlo:lo≤w.heap.size) (h:ScD.At w lo B C d cs) :
 Calls Tryz.prog 173 #[.agg cs.toArray,.string s] w (ScR lo (C+1) ⟨d.vs,d.ls++[s],d.gs⟩ w):=by
 obtain ⟨va,la,ga,vc,lc,gc,rfl,hv,hls,hg,k1,k2,k3⟩:=h
 have HV:=Hd hv
 have HL:=Hd hls
 have HG:=Hd hg
 obtain ⟨nv,hnv⟩:∃ n,d.vs.length=n:=⟨_,rfl⟩
 obtain ⟨nl,hnl⟩:∃ n,d.ls.length=n:=⟨_,rfl⟩
 obtain ⟨ng,hng⟩:∃ n,d.gs.length=n:=⟨_,rfl⟩
 have HNV:=Hd hnv
 have HNL:=Hd hnl
 have HNG:=Hd hng
 have K1:=Hd k1
 have K2:=Hd k2
 have K3:=Hd k3
 rw [hnv,hnl,hng]
 clear hv hls hg hnv hnl hng k1 k2 k3
 go_enter Tryz.func173,Tryz.ntmps173
 go_wp2_with fail
 have B0:=Hd (iz.start w [.slice va nv vc,.slice la nl lc,.slice ga ng gc] cn 134 134)
 refine wp_region_held_drew (S:=fun u=>eP w u [.slice va nv vc,.slice la nl lc,.slice ga ng gc] 3 134) (by kernel_rfl) ⟨_,rfl,B0.out.drew⟩ (fun hHeld=>?_)
 refine' wpAnyH_take (i:=0) (v:=.pointer (some ⟨w.heap.size,0,none⟩)) rfl (by kernel_rfl) (by kernel_rfl) (by kernel_rfl) (fun _ _ _ h=>h) (.inl ⟨by rfl,fun u hu=>(by go_simp)⟩) hHeld ?_
 simp only [Act.put,List.setIfInBounds_toArray]
 refine' wpAnyH_take (i:=1) (v:=.slice va nv vc) rfl (by kernel_rfl) (by kernel_rfl) (by kernel_rfl) (fun _ _ _ h=>h) (.inl ⟨by rfl,fun u hu=>(by have hc:=hu.row.get0 (j:=0) rfl;go_simp)⟩) hHeld ?_
 simp only [Act.put]
 refine' wpAnyH_take (i:=2) (v:=.pointer (some ⟨w.heap.size,1,none⟩)) rfl (by kernel_rfl) (by kernel_rfl) (by kernel_rfl) (fun _ _ _ h=>h) (.inl ⟨by rfl,fun u hu=>(by go_simp)⟩) hHeld ?_
 simp only [Act.put]
 refine' wpAnyH_take (i:=3) (v:=.slice la nl lc) rfl (by kernel_rfl) (by kernel_rfl) (by kernel_rfl) (fun _ _ _ h=>h) (.inl ⟨by rfl,fun u hu=>(by have hc:=hu.row.get0 (j:=1) rfl;go_simp)⟩) hHeld ?_
 simp only [Act.put]
 refine' wpAnyH_take (i:=4) (v:=.string s) rfl (by kernel_rfl) (by kernel_rfl) (by kernel_rfl) (fun _ _ _ h=>h) (.inl ⟨by rfl,fun u hu=>(by go_simp)⟩) hHeld ?_
 simp only [Act.put]
 refine' wpAnyH_take (i:=6) (v:=.pointer (some ⟨w.heap.size,2,none⟩)) rfl (by kernel_rfl) (by kernel_rfl) (by kernel_rfl) (fun _ _ _ h=>h) (.inl ⟨by rfl,fun u hu=>(by go_simp)⟩) hHeld ?_
 simp only [Act.put]
 refine' wpAnyH_take (i:=7) (v:=.slice ga ng gc) rfl (by kernel_rfl) (by kernel_rfl) (by kernel_rfl) (fun _ _ _ h=>h) (.inl ⟨by rfl,fun u hu=>(by have hc:=hu.row.get0 (j:=2) rfl;go_simp)⟩) hHeld ?_
 simp only [Act.put]
 refine rd1 5 rfl (fun K hK=>?_)
 go_simp
 refine (wH d.ls nl HNL.out s la lc _ lo (w.heap.size+2) B (by have:=K2.out;omega) (Nat.le_trans hB hHeld.low.size) hHeld.size (HL.out.keep (a7.of_below (hHeld.low.mono hB)))).mono ?_
 rintro e u1 ⟨a1,c1,rfl,_,_,hn1,hb1⟩
 have N1:=Hd hn1
 have HB1:=Hd (hHeld.below hb1)
 obtain ⟨m1,hm1⟩:∃ m,(d.ls++[s]).length=m:=⟨_,rfl⟩
 have HM1:=Hd hm1
 rw [hm1]
 refine hK.out _ _ HB1.out (fun hHeld1=>?_)
 clear hK K hHeld hb1 hn1 hm1
 refine rd1 8 rfl (fun K hK=>?_)
 go_simp
 refine hK.out _ _ hHeld1 (fun hHeldx=>?_)
 clear hK K hHeldx
 refine rd1 9 rfl (fun K hK=>?_)
 rw [if_pos (by kernel_rfl)]
 obtain ⟨zs,hzs,hb2⟩:=hHeld1
 refine wp_store_row 134 _ _ rfl (w.heap.size+1) #[.slice va nv vc,.slice a1 m1 c1,.slice ga ng gc] rfl rfl 134 _ hb2.out (by kernel_rfl) (by rw [List.size_toArray,hzs];rfl) (uv ..) ?_
 have hset:=eP.set (n:=3) ⟨zs,hzs,hb2⟩ [.slice va nv vc,.slice a1 m1 c1,.slice ga ng gc]
 have HSET:=Hd hset
 have HSZ:=Hd (show (u1.setRow (w.heap.size+1) #[.slice va nv vc,.slice a1 m1 c1,.slice ga ng gc]).heap.size=u1.heap.size by simp)
 refine hK.out _ _ ⟨_,rfl,hset⟩ (fun _=>?_)
 clear hK K hset
 refine wpAnyH_done (by kernel_rfl) ?_ _
 go_wp2_with fail
 refine bodyPost_ret (results_cell_row rfl _ _ (w.heap.size+1) 134 _ (0,0) _ rfl HSET.out.out Tryz.underlying134 rfl (by kernel_rfl)) rfl ?_
 have hlow:∀ u,Below w.heap.size w u→a7 lo B w u:=fun u hu=>a7.of_below (hu.mono hB)
 have HL2:=(HV.out.keep (hlow _ HSET.out.low))
 have HG2:=(HG.out.keep (hlow _ HSET.out.low))
 have hsz:=HSET.out.size
 refine ⟨[.slice va nv vc,.slice a1 m1 c1,.slice ga ng gc],rfl,⟨va,a1,ga,vc,c1,gc,by rw [HM1.out,HNV.out,HNG.out],HL2.mono (by omega),?_,HG2.mono (by omega),?_,?_,?_⟩,HSET.out.low⟩
 ·have h1:=(N1.out.keep (l4 (w:=w) #[.slice va nv vc,.slice a1 m1 c1,.slice ga ng gc] (.inr (Nat.le_refl _)))).less (show lo≤w.heap.size+2 by omega)
  exact h1.mono (Nat.le_of_eq HSZ.out.symm)
 ·have:=K1.out
  show d.vs.length≤C+1
  omega
 ·have:=K2.out
  rw [List.length_append]
  show d.ls.length+1≤C+1
  omega
 ·have:=K3.out
  show d.gs.length≤C+1
  omega
theorem BO:(Tryz.prog.info? 215).map (fun i=>(i.zero,i.size,i.bytes))=some (some (.agg #[.string ⟨#[]⟩,.int .i64 0]),2,24):=by kernel_rfl
theorem sx (l:List (ByteArray×Int)):∀ u∈(l.flatMap fun x=>[Value.string x.1,.int .i64 x.2]),u.oneCell'=true:=fun u hu=>by
 obtain ⟨x,_,hx⟩:=List.mem_flatMap.1 hu
 simp only [List.mem_cons,List.mem_nil_iff,or_false] at hx
 rcases hx with rfl | rfl<;>rfl
set_option maxRecDepth 100000 in
set_option maxHeartbeats 3200000 in
theorem ma (d:ScD) (s:ByteArray) (n:Int) (cs:List Value) (w:World) (lo B C:Nat) (hC:C≤1073741824) (hB:B≤w.heap.size) (hlo:lo≤w.heap.size) (h:ScD.At w lo B C d cs) :
 Calls Tryz.prog 131 #[.agg cs.toArray,.string s,.int .i64 n] w (ScR lo (C+1) ⟨d.vs,d.ls,d.gs++[(s,n)]⟩ w):=by
 obtain ⟨i0,hi,hz0,hz1,hz2⟩:=info_parts BO
 have HI:=Hd hi
 have HZ0:=Hd hz0
 have HZ1:=Hd hz1
 have HZ2:=Hd hz2
 clear hi hz0 hz1 hz2
 obtain ⟨va,la,ga,vc,lc,gc,rfl,hv,hls,hg,k1,k2,k3⟩:=h
 have HV:=Hd hv
 have HL:=Hd hls
 have HG:=Hd hg
 obtain ⟨nv,hnv⟩:∃ n,d.vs.length=n:=⟨_,rfl⟩
 obtain ⟨nl,hnl⟩:∃ n,d.ls.length=n:=⟨_,rfl⟩
 obtain ⟨ng,hng⟩:∃ n,d.gs.length=n:=⟨_,rfl⟩
 have HNV:=Hd hnv
 have HNL:=Hd hnl
 have HNG:=Hd hng
 have K1:=Hd k1
 have K2:=Hd k2
 have K3:=Hd k3
 have hngC:ng≤C:=by omega
 have HSRC:=Hd (show ∀ u,Below w.heap.size w u→kb u ga ng (d.gs.flatMap fun x=>[Value.string x.1,.int .i64 x.2]) from fun u hu=>by
  rw [← hng];exact (hg.keep (a7.of_below (hu.mono hB))).src)
 have HLEN:=Hd (show (d.gs.flatMap fun x=>[Value.string x.1,.int .i64 x.2]).length=ng * 2 by rw [← hng];exact sy _)
 rw [hnv,hnl,hng]
 clear hv hls hg hnv hnl hng k1 k2 k3
 have B0:=Hd (iz.start w [.slice va nv vc,.slice la nl lc,.slice ga ng gc] cn 134 134)
 have b0:=B0.out.row.get0 (j:=0) (v:=.slice va nv vc) rfl
 have b1:=B0.out.row.get0 (j:=1) (v:=.slice la nl lc) rfl
 have b2:=B0.out.row.get0 (j:=2) (v:=.slice ga ng gc) rfl
 go_enter Tryz.func131,Tryz.ntmps131
 go_wp2_with (at_builtin;refine aU rfl _ _ 132 rfl (w.heap.size+2) 215 i0 (.agg #[.string ⟨#[]⟩,.int .i64 0]) 2 24 Tryz.underlying132 HI.out HZ0.out HZ1.out HZ2.out rfl (by decide) _ 0 [] rfl ?own ga ng gc (d.gs.flatMap fun x=>[Value.string x.1,.int .i64 x.2]) rfl HLEN.out ?src (sx _) ?c4 ?c5 ?c6 ?_)
 case own =>
  have h:=World.ownsRow_made (e:=215) (size:=2) (base:=w.heap.size+2) ((w.alloc (.cells #[.slice va nv vc,.slice la nl lc,.slice ga ng gc] 134)).alloc (.cells cn.toArray 134)) #[] 0 B0.out.size (Nat.zero_le _) rfl
  simp only [World.size_alloc] at h
  exact h
 case src=>exact HSRC.out _ (ae B0.out.low (af _ _))
 case c4=>unfold maxLen;omega
 case c5=>omega
 case c6=>simp only [World.size_alloc];omega
 intro v1 w1 hown1 hgrow1
 have HO1:=Hd hown1
 have B1:=Hd (B0.out.below2 ((show Below (w.heap.size+2) _ _ from (af _ _).mono B0.out.size).grown hgrow1 (by simp only [World.size_alloc];omega) (by intro k hk;simp [Value.ownBlock] at hk;omega)))
 have hs1:=B1.out.size
 clear hown1 hgrow1 b0 b1 b2
 go_wp2_with (at_builtin;refine aU rfl _ _ 132 rfl (w.heap.size+2) 215 i0 (.agg #[.string ⟨#[]⟩,.int .i64 0]) 2 24 Tryz.underlying132 HI.out HZ0.out HZ1.out HZ2.out rfl (by decide) _ _ _ rfl (HO1.out.alloc _) (some ⟨w1.heap.size,0,none⟩) 1 1 [.string s,.int .i64 n] rfl rfl (dh w1 [.string s,.int .i64 n] 215 1) ?e3 ?e4 ?e5 ?e6 ?_)
 case e3=>intro u hu;simp only [List.mem_cons,List.mem_nil_iff,or_false] at hu;rcases hu with rfl | rfl<;>rfl
 case e4=>unfold maxLen;omega
 case e5=>omega
 case e6=>rw [World.size_alloc];omega
 intro v2 w2 hown2 hgrow2
 have HO2:=Hd hown2
 have B2:=Hd (B1.out.below2 ((show Below (w.heap.size+2) _ _ from (af w1 _).mono hs1).grown hgrow2 (by rw [World.size_alloc];omega) (fun k hk=>(HO1.out.lt k hk).1)))
 have hs2:=B2.out.size
 clear hown2 hgrow2
 obtain ⟨g2,c2,rfl,_,_,hn2⟩:=n5 (l:=d.gs++[(s,n)]) (lo:=w.heap.size+2) (by simpa [HNG.out] using HO2.out) (Nat.le_refl _)
 have N2:=Hd hn2
 obtain ⟨m2,hm2⟩:∃ m,(d.gs++[(s,n)]).length=m:=⟨_,rfl⟩
 have HM2:=Hd hm2
 rw [hm2]
 have b0:=B2.out.row.get0 (j:=0) (v:=.slice va nv vc) rfl
 have b1:=B2.out.row.get0 (j:=1) (v:=.slice la nl lc) rfl
 clear hn2 hm2 HO2
 go_wp2_with (refine wpList_store_row rfl 134 _ _ rfl (w.heap.size+1) #[.slice va nv vc,.slice la nl lc,.slice g2 m2 c2] rfl rfl 134 _ B2.out.out (by kernel_rfl) rfl (uv ..) ?_)
 have HSET:=Hd (eP.set (n:=3) ⟨_,rfl,B2.out⟩ [.slice va nv vc,.slice la nl lc,.slice g2 m2 c2])
 have HSZ:=Hd (show (w2.setRow (w.heap.size+1) #[.slice va nv vc,.slice la nl lc,.slice g2 m2 c2]).heap.size=w2.heap.size by simp)
 refine bodyPost_ret (results_cell_row rfl _ _ (w.heap.size+1) 134 _ (0,0) _ rfl HSET.out.out Tryz.underlying134 rfl (by kernel_rfl)) rfl ?_
 have hlow:∀ u,Below w.heap.size w u→a7 lo B w u:=fun u hu=>a7.of_below (hu.mono hB)
 have HV2:=(HV.out.keep (hlow _ HSET.out.low))
 have HL2:=(HL.out.keep (hlow _ HSET.out.low))
 have hsz:=HSET.out.size
 refine ⟨[.slice va nv vc,.slice la nl lc,.slice g2 m2 c2],rfl,⟨va,la,g2,vc,lc,c2,by rw [HM2.out,HNV.out,HNL.out],HV2.mono (by omega),HL2.mono (by omega),?_,?_,?_,?_⟩,HSET.out.low⟩
 ·have h1:=(N2.out.keep (l4 (w:=w) #[.slice va nv vc,.slice la nl lc,.slice g2 m2 c2] (.inr (Nat.le_refl _)))).less (show lo≤w.heap.size+2 by omega)
  exact h1.mono (Nat.le_of_eq HSZ.out.symm)
 ·have:=K1.out
  show d.vs.length≤C+1
  omega
 ·have:=K2.out
  show d.ls.length≤C+1
  omega
 ·have:=K3.out
  rw [List.length_append]
  show d.gs.length+1≤C+1
  omega
end Go.Proofs.YtiefeajappjnbaaGreatDoor
