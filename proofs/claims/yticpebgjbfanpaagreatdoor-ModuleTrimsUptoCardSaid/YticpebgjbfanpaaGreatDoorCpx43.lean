/- qanalyze.copied and functions: the same tree in new cells. -/
import Derived.Test.YticpebgjbfanpaaGreatDoorGD
import Derived.Test.YticpebgjbfanpaaGreatDoorHF
import Derived.Test.YticpebgjbfanpaaGreatDoorGM
import Derived.Test.YticpebgjbfanpaaGreatDoorGX
namespace Go.Proofs.YticpebgjbfanpaaGreatDoor
open Go.RowKit
theorem own_at {w:World} {base sz n g cap:Nat} {t:TypeId} {cs:List Value} (h:w.ownsRow base t sz (.slice (some ⟨g,0,none⟩) n cap) n cs):g<w.heap.size∧∀ i,i<n→CellsAt w g (0+i * sz) ((cs.drop (i * sz)).take sz):=by
 obtain ⟨hlen,h2⟩:=h
 rcases h2 with ⟨e,_⟩ | ⟨g',cap',cur,e,hg,hh,hc,hm,hcs,htake⟩
 ·cases e
 ·simp only [Value.slice.injEq,Option.some.injEq,Addr.mk.injEq] at e
  obtain ⟨⟨rfl,_,_⟩,_,rfl⟩:=e
  refine ⟨(Array.getElem?_eq_some_iff.1 hh).1,fun i hi j hj=>?_⟩
  have hjs:j<sz:=by simp at hj;omega
  have hi':i * sz+j<n * sz:=by
   have h1:=Nat.mul_le_mul_right sz (show i+1≤n by omega)
   rw [Nat.add_mul,Nat.one_mul] at h1
   omega
  have e:w.cell? ⟨g,0+i * sz+j,none⟩=cur[0+i * sz+j]?:=by simp [World.cell?,hh]
  rw [e,List.getElem?_take,if_pos hjs,List.getElem?_drop,← htake,List.getElem?_take,if_pos hi',Nat.zero_add]
  simp
theorem drop_take_app {xs ys:List Value} {n i sz:Nat} (hx:xs.length=n * sz) (hy:ys.length=sz) (hi:i<n+1) :
 ((xs++ys).drop (i * sz)).take sz=if i<n then (xs.drop (i * sz)).take sz else ys:=by
 split
 ·rename_i h
  have h1:i * sz+sz≤xs.length:=by
   have:=Nat.mul_le_mul_right sz (show i+1≤n by omega)
   rw [Nat.add_mul,Nat.one_mul] at this
   omega
  rw [List.drop_append_of_le_length (by omega),List.take_append_of_le_length (by simp;omega)]
 ·rename_i h
  obtain rfl:i=n:=by omega
  rw [← hx,List.drop_left,List.take_of_length_le (by omega)]
theorem drop_take_append17 {xs ys:List Value} {n i:Nat} (hx:xs.length=n * 17) (hy:ys.length=17) (hi:i<n+1):((xs++ys).drop (i * 17)).take 17=if i<n then (xs.drop (i * 17)).take 17 else ys:=drop_take_app hx hy hi
theorem drop_take_append19 {xs ys:List Value} {n i:Nat} (hx:xs.length=n * 19) (hy:ys.length=19) (hi:i<n+1):((xs++ys).drop (i * 19)).take 19=if i<n then (xs.drop (i * 19)).take 19 else ys:=drop_take_app hx hy hi
theorem exprs_safe {a:World} {base N L n:Nat} {t:TypeId} {s:Value} {xs:List Value} {l:List ExprD} {G:World→Prop} (h:a.ownsRow base t 17 s n xs) (hn:l.length=n) (hL:L≤base)
 (hc:∀ i (hi:i<l.length),Safe L s.ownBlock a (fun c=>G c→ExprD.At c c.heap.size N l[i] ((xs.drop (i * 17)).take 17))) :
 ∃ ad cp,s=.slice ad l.length cp∧Safe L none a (fun c=>G c→ExprsAt c c.heap.size N l ad):=by
 obtain ⟨ad,cp,rfl⟩:=own_slice h
 refine ⟨ad,cp,by rw [hn],fun c hk hG=>?_⟩
 have h2:=own_keep h hk hL
 rcases h2.2 with ⟨e,e2⟩ | ⟨g,cap,cur,e,_⟩
 ·have:l=[]:=List.length_eq_zero_iff.1 (by omega)
  subst this
  trivial
 ·simp only [Value.slice.injEq] at e
  obtain ⟨rfl,_,_⟩:=e
  obtain ⟨hg,ha⟩:=own_at h2
  exact ExprsAt_of hg l 0 fun i hi=>⟨_,ha i (by omega),hc i hi c hk.weak hG⟩
theorem funcs_safe {a:World} {base N L n:Nat} {t:TypeId} {s:Value} {xs:List Value} {l:List FuncD} {G:World→Prop} (h:a.ownsRow base t 19 s n xs) (hn:l.length=n) (hL:L≤base)
 (hc:∀ i (hi:i<l.length),Safe L s.ownBlock a (fun c=>G c→FuncD.At c c.heap.size N l[i] ((xs.drop (i * 19)).take 19))) :
 ∃ ad cp,s=.slice ad l.length cp∧Safe L none a (fun c=>G c→FuncsAt c c.heap.size N l ad):=by
 obtain ⟨ad,cp,rfl⟩:=own_slice h
 refine ⟨ad,cp,by rw [hn],fun c hk hG=>?_⟩
 have h2:=own_keep h hk hL
 rcases h2.2 with ⟨e,e2⟩ | ⟨g,cap,cur,e,_⟩
 ·have:l=[]:=List.length_eq_zero_iff.1 (by omega)
  subst this
  trivial
 ·simp only [Value.slice.injEq] at e
  obtain ⟨rfl,_,_⟩:=e
  obtain ⟨hg,ha⟩:=own_at h2
  exact FuncsAt_of hg l 0 fun i hi=>⟨_,ha i (by omega),hc i hi c hk.weak hG⟩
theorem flat_take:∀ (l:List ParD) (i:Nat) (hi:i<l.length),((l.flatMap ParD.cells).drop (i * 2)).take 2=l[i].cells
 | p::r,0,_=>by simp [ParD.cells]
 | p::r,i+1,h=>by
   rw [List.flatMap_cons,show (i+1) * 2=p.cells.length+i * 2 by simp [ParD.cells];omega,← List.drop_drop,List.drop_left]
   exact flat_take r i (by simpa using h)
theorem pars_safe {a:World} {base N L n:Nat} {t:TypeId} {s:Value} {l:List ParD} (h:a.ownsRow base t 2 s n ([]++l.flatMap ParD.cells)) (hn:l.length=n) (hL:L≤base) (hc:n≤N∧∀ i (hi:i<l.length),l[i].name.size≤N) :
 ∃ ad cp,s=.slice ad n cp∧Safe L none a (fun c=>ParamsAt c c.heap.size N l ad):=by
 obtain ⟨ad,cp,rfl⟩:=own_slice h
 refine ⟨ad,cp,rfl,fun c hk=>?_⟩
 have h2:=own_keep h hk hL
 rcases h2.2 with ⟨e,e2⟩ | ⟨g,cap,cur,e,_⟩
 ·have:l=[]:=List.length_eq_zero_iff.1 (by omega)
  subst this
  trivial
 ·simp only [Value.slice.injEq] at e
  obtain ⟨rfl,_,_⟩:=e
  obtain ⟨hg,ha⟩:=own_at h2
  refine ParamsAt_of hg l 0 fun i hi=>⟨hc.2 i hi,?_⟩
  have:=ha i (by omega)
  rw [List.nil_append,flat_take l i hi] at this
  exact this
theorem FuncD.At.mk' {w:World} {B N:Nat} {f:FuncD} {pa:Option Addr} {pc:Nat} {es:List Value} (h1:f.name.size≤N) (h2:f.params.length≤N) (h3:ParamsAt w B N f.params pa) (h4:ExprD.At w B N f.body es):FuncD.At w B N f (.string f.name::.slice pa f.params.length pc::es):=by
 obtain ⟨nm,ps,e⟩:=f
 exact ⟨pa,pc,es,rfl,h1,h2,h3,h4⟩
def zeroFA:Array Value:=#[.string ⟨#[]⟩,.slice none 0 0,.int .i64 0,.string ⟨#[]⟩,.int .i64 0,.bool false,.bool false,.string ⟨#[]⟩,.int .i64 0,.int .i64 0,.int .i64 0,.int .i64 0,.int .i64 0,.string ⟨#[]⟩,.slice none 0 0,.slice none 0 0,.slice none 0 0,.slice none 0 0,.slice none 0 0]
theorem infoFN:∃ z:Array Value,z.size=19∧(Tryz.prog.info? 82).map (fun i=>(i.zero,i.size,i.bytes))=some (some (.agg z),19,280):=⟨zeroFA,rfl,by kernel_rfl⟩
def RowE (w:World) (b:Nat) (cs:List Value):Prop:=w.heap[b]?=some (.cells cs.toArray 34 (0,0))
theorem RowE.cell {w:World} {b j:Nat} {cs:List Value} {v:Value} (h:RowE w b cs) (hv:cs[j]?=some v):w.cell? ⟨b,j,none⟩=some v:=by
 rw [cell_of_row w b j _ _ _ h];simpa using hv
theorem RowE.frozen {w:World} {b:Nat} {cs:List Value} (h:RowE w b cs) (j:Nat):w.frozen? ⟨b,j,none⟩=false:=frozen_of_row w b j _ _ h
theorem RowE.below {w w':World} {B b:Nat} {cs:List Value} (h:RowE w b cs) (hb:Below B w w') (hlt:b<B):RowE w' b cs:=(hb.block b hlt).trans h
theorem RowE.range {w:World} {b:Nat} {cs:List Value} (h:RowE w b cs):w.rangeAt b 0 cs:=fun j v hv=>by rw [Nat.zero_add];exact h.cell hv
theorem RowE.grown {w w':World} {b:Nat} {row:Option Nat} {cs:List Value} (h:RowE w b cs) (hg:w.grownBy w' row) (hlt:b<w.heap.size) (hne:some b≠row):RowE w' b cs:=(hg.block b hlt hne).trans h
theorem RowE.alloc {w:World} {b:Nat} {cs:List Value} (h:RowE w b cs) (hlt:b<w.heap.size) (o:Obj):RowE (w.alloc o) b cs:=(heap_alloc_old w o hlt).trans h
def orow (e:ExprD) (ya la va:Option Addr) (yc lc vc:Nat) (s f:Value):List Value :=
 [.int .i64 e.op,.string e.name,.int .i64 e.val.kind,.bool e.val.bool,.bool e.val.num.neg,.string e.val.num.digits,.int .i64 e.val.num.exp,.int .i64 e.val.time.kind,.int .i64 e.val.time.day,.int .i64 e.val.time.nano,.int .i64 e.val.time.offset,
  .string e.val.text,.slice ya e.val.bytes.length yc,.slice la e.val.list.length lc,.slice va e.val.fields.length vc,s,f]
end Go.Proofs.YticpebgjbfanpaaGreatDoor
