/- qanalyze.copied and functions: the same tree in new cells. -/
import Derived.Test.YtiefeajappjnbaaGreatDoorGA
import Derived.Test.YtiefeajappjnbaaGreatDoorGD
import Derived.Test.YtiefeajappjnbaaGreatDoorHF
import Derived.Test.YtiefeajappjnbaaGreatDoorGM
import Derived.Test.YtiefeajappjnbaaGreatDoorGX
namespace Go.Proofs.YtiefeajappjnbaaGreatDoor
open Go.RowKit
theorem rf {w:World} {base sz n g cap:Nat} {t:TypeId} {cs:List Value} (h:w.ownsRow base t sz (.slice (some ⟨g,0,none⟩) n cap) n cs):g<w.heap.size∧∀ i,i<n→aj w g (0+i * sz) ((cs.drop (i * sz)).take sz):=by
 obtain ⟨hlen,h2⟩:=h
 rcases h2 with ⟨e,_⟩ | ⟨g',cap',cur,e,hg,hh,hc,hm,hcs,htake⟩
 ·cases e
 ·simp only [Value.slice.injEq,Option.some.injEq,Addr.mk.injEq] at e
  obtain ⟨⟨rfl,_,_⟩,_,rfl⟩:=e
  refine ⟨(Array.getElem?_eq_some_iff.1 hh).1,fun i hi j hj=>?_⟩
  have hjs:j<sz:=by simp at hj;omega
  have hi':i * sz+j<n * sz:=by
   have h1:=Nat.mul_le_mul_right sz (show i+1≤n by omega)
   rw [Nat.add_mul,Nat.one_mul] at h1
   omega
  have e:w.cell? ⟨g,0+i * sz+j,none⟩=cur[0+i * sz+j]?:=by simp [World.cell?,hh]
  rw [e,List.getElem?_take,if_pos hjs,List.getElem?_drop,← htake,List.getElem?_take,if_pos hi',Nat.zero_add]
  simp
theorem ja {xs ys:List Value} {n i sz:Nat} (hx:xs.length=n * sz) (hy:ys.length=sz) (hi:i<n+1) :
 ((xs++ys).drop (i * sz)).take sz=if i<n then (xs.drop (i * sz)).take sz else ys:=by
 split
 ·rename_i h
  have h1:i * sz+sz≤xs.length:=by
   have:=Nat.mul_le_mul_right sz (show i+1≤n by omega)
   rw [Nat.add_mul,Nat.one_mul] at this
   omega
  rw [List.drop_append_of_le_length (by omega),List.take_append_of_le_length (by simp;omega)]
 ·rename_i h
  obtain rfl:i=n:=by omega
  rw [← hx,List.drop_left,List.take_of_length_le (by omega)]
theorem dy {xs ys:List Value} {n i:Nat} (hx:xs.length=n * 17) (hy:ys.length=17) (hi:i<n+1):((xs++ys).drop (i * 17)).take 17=if i<n then (xs.drop (i * 17)).take 17 else ys:=ja hx hy hi
theorem jw {xs ys:List Value} {n i:Nat} (hx:xs.length=n * 19) (hy:ys.length=19) (hi:i<n+1):((xs++ys).drop (i * 19)).take 19=if i<n then (xs.drop (i * 19)).take 19 else ys:=ja hx hy hi
theorem cm {B:Nat} {w0 w c:World} (h0:Below B w0 w) (hc:Below B w0 c) (hs:w.heap.size≤c.heap.size):Below B w c :=
 ⟨hc.os.trans h0.os.symm,hc.tape.trans h0.tape.symm,hc.output.trans h0.output.symm,hs,fun k hk=>(hc.block k hk).trans (h0.block k hk).symm⟩
theorem iR {w w2:World} (hb:Below w.drew.heap.size w.drew w2):Below w.heap.size w w2:=⟨hb.os,hb.tape,hb.output,hb.size,hb.block⟩
theorem rI {a:World} {base N L n:Nat} {t:TypeId} {s:Value} {xs:List Value} {l:List ag} {G:World→Prop} (h:a.ownsRow base t 17 s n xs) (hn:l.length=n) (hL:L≤base)
 (hc:∀ i (hi:i<l.length),bF L s.ownBlock a (fun c=>G c→ag.At c c.heap.size N l[i] ((xs.drop (i * 17)).take 17))) :
 ∃ ad cp,s=.slice ad l.length cp∧l.length≤cp∧bF L none a (fun c=>G c→bb c c.heap.size N l ad):=by
 obtain ⟨ad,cp,rfl⟩:=di h
 have hcp:l.length≤cp:=by
  rcases h.2 with ⟨e,e2⟩ | ⟨g,cap,cur,e,_,_,h5,_⟩
  ·omega
  ·simp only [Value.slice.injEq] at e
   obtain ⟨_,_,rfl⟩:=e
   omega
 refine ⟨ad,cp,by rw [hn],hcp,fun c hk hG=>?_⟩
 have h2:=dt h hk hL
 rcases h2.2 with ⟨e,e2⟩ | ⟨g,cap,cur,e,_⟩
 ·have:l=[]:=List.length_eq_zero_iff.1 (by omega)
  subst this
  trivial
 ·simp only [Value.slice.injEq] at e
  obtain ⟨rfl,_,_⟩:=e
  obtain ⟨hg,ha⟩:=rf h2
  exact fC hg l 0 fun i hi=>⟨_,ha i (by omega),hc i hi c hk.weak hG⟩
theorem rE {a:World} {base N L n:Nat} {t:TypeId} {s:Value} {xs:List Value} {l:List al} {G:World→Prop} (h:a.ownsRow base t 19 s n xs) (hn:l.length=n) (hL:L≤base)
 (hc:∀ i (hi:i<l.length),bF L s.ownBlock a (fun c=>G c→al.At c c.heap.size N l[i] ((xs.drop (i * 19)).take 19))) :
 ∃ ad cp,s=.slice ad l.length cp∧bF L none a (fun c=>G c→av c c.heap.size N l ad):=by
 obtain ⟨ad,cp,rfl⟩:=di h
 refine ⟨ad,cp,by rw [hn],fun c hk hG=>?_⟩
 have h2:=dt h hk hL
 rcases h2.2 with ⟨e,e2⟩ | ⟨g,cap,cur,e,_⟩
 ·have:l=[]:=List.length_eq_zero_iff.1 (by omega)
  subst this
  trivial
 ·simp only [Value.slice.injEq] at e
  obtain ⟨rfl,_,_⟩:=e
  obtain ⟨hg,ha⟩:=rf h2
  exact gL hg l 0 fun i hi=>⟨_,ha i (by omega),hc i hi c hk.weak hG⟩
theorem nG:∀ (l:List aZ) (i:Nat) (hi:i<l.length),((l.flatMap aZ.cells).drop (i * 2)).take 2=l[i].cells
 | p::r,0,_=>by simp [aZ.cells]
 | p::r,i+1,h=>by
   rw [List.flatMap_cons,show (i+1) * 2=p.cells.length+i * 2 by simp [aZ.cells];omega,← List.drop_drop,List.drop_left]
   exact nG r i (by simpa using h)
theorem um {a:World} {base N L n:Nat} {t:TypeId} {s:Value} {l:List aZ} (h:a.ownsRow base t 2 s n ([]++l.flatMap aZ.cells)) (hn:l.length=n) (hL:L≤base) (hc:n≤N∧∀ i (hi:i<l.length),l[i].name.size≤N) :
 ∃ ad cp,s=.slice ad n cp∧bF L none a (fun c=>aF c c.heap.size N l ad):=by
 obtain ⟨ad,cp,rfl⟩:=di h
 refine ⟨ad,cp,rfl,fun c hk=>?_⟩
 have h2:=dt h hk hL
 rcases h2.2 with ⟨e,e2⟩ | ⟨g,cap,cur,e,_⟩
 ·have:l=[]:=List.length_eq_zero_iff.1 (by omega)
  subst this
  trivial
 ·simp only [Value.slice.injEq] at e
  obtain ⟨rfl,_,_⟩:=e
  obtain ⟨hg,ha⟩:=rf h2
  refine iy hg l 0 fun i hi=>⟨hc.2 i hi,?_⟩
  have:=ha i (by omega)
  rw [List.nil_append,nG l i hi] at this
  exact this
theorem kV {P:Program} (w:World) {ops:Array Oper} {o:Oper} {a:Act} {K:Act→World→Prop} {Q:Exit→Act→World→Prop} {E:Prop} (hgd:o.guard=none) (s x:Operand) (t:TypeId)
 (ho:o.op=.call { callee:=.builtin .append,args:=#[s,x],argTypes:=#[t,t] })
 (base:Nat) (e:TypeId) (i:TypeInfo) (z:Value) (size bytes:Nat) (ht:P.underlying t=some (.slice e)) (hi:P.info? e=some i) (hz:i.zero=some z)
 (hsize:i.size=size) (hby:i.bytes=bytes) (hzs:z.cells.size=size) (hsz:0<size)
 (v:Value) (n:Nat) (xs:List Value) (hs:a.eval s=v) (hown:w.ownsRow base e size v n xs)
 (ad:Option Addr) (m c:Nat) (news:List Value) (hx:a.eval x=.slice ad m c) (hl:news.length=m * size) (hsrc:kb w ad m news) (h1:∀ u∈news,u.oneCell'=true)
 (h63:n+m≤maxLen) (hbytes:(n+m) * bytes≤140737488355328) (hbase:base≤w.heap.size)
 (h:∀ v' w',w'.ownsRow base e size v' (n+m) (xs++news)→w.grownBy w' v.ownBlock→K (a.put o.dst v') w') :
 if Region.wanted o (yielded ops a.tmps)=true then Oper.wp P o a w K Q else E:=by
 have hw:Region.wanted o (yielded ops a.tmps)=true:=by simp [Region.wanted,hgd]
 rw [if_pos hw]
 cases ad with
 | none =>
   obtain rfl:=hsrc.1 rfl
   obtain rfl:news=[]:=List.length_eq_zero_iff.1 (by omega)
   have hrun:=gZ (P:=P) w base t o.type e i size ht hi v n xs hown c
   unfold Oper.wp
   simp [execOp,ho,resolve,invoke,builtin,hs,hx,hrun,Result.andThen]
   exact h v w (by simpa using hown) ⟨rfl,rfl,rfl,Nat.le_refl _,fun _ _ _=>rfl⟩
 | some ad=>exact wp_append_own w s x t ho base e i z size bytes ht hi hz hsize hby hzs hsz v n xs hs hown ad m c news hx hl (hsrc.2 ad rfl) h1 h63 hbytes hbase (fun v' w' h2 h3 _=>h v' w' h2 h3)
theorem aF.srcN {w:World} {B N n:Nat} {l:List aZ} {a:Option Addr} (hn:n=l.length) (h:aF w B N l a):kb w a n (l.flatMap aZ.cells):=by rw [hn];exact h.src
theorem al.At.mk' {w:World} {B N:Nat} {f:al} {pa:Option Addr} {pc:Nat} {es:List Value} (h1:f.name.size≤N) (h2:f.params.length≤N) (h3:aF w B N f.params pa) (h4:ag.At w B N f.body es):al.At w B N f (.string f.name::.slice pa f.params.length pc::es):=by
 obtain ⟨nm,ps,e⟩:=f
 exact ⟨pa,pc,es,rfl,h1,h2,h3,h4⟩
def bH:Array Value:=zE0
theorem AX:∃ z:Array Value,z.size=17∧(Tryz.prog.info? 34).map (fun i=>(i.zero,i.size,i.bytes))=some (some (.agg z),17,240):=⟨bH,rfl,by kernel_rfl⟩
def qU:Array Value:=#[.string ⟨#[]⟩,.slice none 0 0,.int .i64 0,.string ⟨#[]⟩,.int .i64 0,.bool false,.bool false,.string ⟨#[]⟩,.int .i64 0,.int .i64 0,.int .i64 0,.int .i64 0,.int .i64 0,.string ⟨#[]⟩,.slice none 0 0,.slice none 0 0,.slice none 0 0,.slice none 0 0,.slice none 0 0]
theorem BQ:∃ z:Array Value,z.size=19∧(Tryz.prog.info? 72).map (fun i=>(i.zero,i.size,i.bytes))=some (some (.agg z),19,280):=⟨qU,rfl,by kernel_rfl⟩
theorem sw:(Tryz.prog.info? 72).map (·.size)=some 19:=by kernel_rfl
theorem jX:∀ (cs:List Value) (n:Nat) (Z:Array Value),List.foldl (fun (a:Array Value) (x:Value×Nat)=>a.setIfInBounds (2+x.2) x.1) Z (cs.zipIdx n)=List.foldl (fun (a:Array Value) (x:Value×Nat)=>a.setIfInBounds x.2 x.1) Z (cs.zipIdx (n+2))
 | [],_,_=>rfl
 | c::cs,n,Z=>by
   rw [List.zipIdx_cons,List.zipIdx_cons,List.foldl_cons,List.foldl_cons,jX cs (n+1)]
   rw [show 2+(c,n).2=(c,n+2).2 from Nat.add_comm 2 n]
theorem xP (nm:ByteArray) (pb:Option Addr) (np pd:Nat) (cs:List Value) (h:cs.length=17):List.foldl (fun (a:Array Value) (x:Value×Nat)=>a.setIfInBounds (2+x.2) x.1) #[.string nm,.slice pb np pd,.int .i64 0,.string ⟨#[]⟩,.int .i64 0,.bool false,.bool false,.string ⟨#[]⟩,.int .i64 0,.int .i64 0,.int .i64 0,.int .i64 0,.int .i64 0,.string ⟨#[]⟩,.slice none 0 0,.slice none 0 0,.slice none 0 0,.slice none 0 0,.slice none 0 0] cs.zipIdx=(.string nm::.slice pb np pd::cs).toArray:=by
 rw [jX,fx cs 2 _ (by rw [h];rfl)]
 rfl
theorem xO (nm:ByteArray) (pb:Option Addr) (np pd:Nat) (cs:List Value) (h:cs.length=17):List.foldl (fun (a:Array Value) (x:Value×Nat)=>a.setIfInBounds x.2 x.1) #[.string nm,.slice pb np pd,.int .i64 0,.string ⟨#[]⟩,.int .i64 0,.bool false,.bool false,.string ⟨#[]⟩,.int .i64 0,.int .i64 0,.int .i64 0,.int .i64 0,.int .i64 0,.string ⟨#[]⟩,.slice none 0 0,.slice none 0 0,.slice none 0 0,.slice none 0 0,.slice none 0 0] (cs.zipIdx 2)=(.string nm::.slice pb np pd::cs).toArray:=by
 rw [fx cs 2 _ (by rw [h];rfl)]
 rfl
def bE (w:World) (b:Nat) (cs:List Value):Prop:=w.heap[b]?=some (.cells cs.toArray 34 (0,0))
theorem bE.cell {w:World} {b j:Nat} {cs:List Value} {v:Value} (h:bE w b cs) (hv:cs[j]?=some v):w.cell? ⟨b,j,none⟩=some v:=by
 rw [cell_of_row w b j _ _ _ h];simpa using hv
theorem bE.frozen {w:World} {b:Nat} {cs:List Value} (h:bE w b cs) (j:Nat):w.frozen? ⟨b,j,none⟩=false:=frozen_of_row w b j _ _ h
theorem bE.below {w w':World} {B b:Nat} {cs:List Value} (h:bE w b cs) (hb:Below B w w') (hlt:b<B):bE w' b cs:=(hb.block b hlt).trans h
theorem bE.range {w:World} {b:Nat} {cs:List Value} (h:bE w b cs):w.rangeAt b 0 cs:=fun j v hv=>by rw [Nat.zero_add];exact h.cell hv
theorem bE.grown {w w':World} {b:Nat} {row:Option Nat} {cs:List Value} (h:bE w b cs) (hg:w.grownBy w' row) (hlt:b<w.heap.size) (hne:some b≠row):bE w' b cs:=(hg.block b hlt hne).trans h
theorem bE.alloc {w:World} {b:Nat} {cs:List Value} (h:bE w b cs) (hlt:b<w.heap.size) (o:Obj):bE (w.alloc o) b cs:=(heap_alloc_old w o hlt).trans h
def kW (e:ag) (ya la va:Option Addr) (yc lc vc:Nat) (s f:Value):List Value :=
 [.int .i64 e.op,.string e.name,.int .i64 e.val.kind,.bool e.val.bool,.bool e.val.num.neg,.string e.val.num.digits,.int .i64 e.val.num.exp,.int .i64 e.val.time.kind,.int .i64 e.val.time.day,.int .i64 e.val.time.nano,.int .i64 e.val.time.offset,
  .string e.val.text,.slice ya e.val.bytes.length yc,.slice la e.val.list.length lc,.slice va e.val.fields.length vc,s,f]
theorem iG (e:ag) (ya la va:Option Addr) (yc lc vc:Nat) (s f:Value):(kW e ya la va yc lc vc s f)[15]?=some s:=rfl
theorem jD {P:Program} {ops:Array Oper} {rest:List Oper} {op:Oper} {a:Act} {w:World} {Q:Exit→Act→World→Prop} (hgd:op.guard=none) (ty:TypeId) (x y:Operand) (ho:op.op=.store ty x y) (b:Nat) (hb:w.heap.size=b)
 (c c':Array Value) (hx:a.eval x=.pointer (some ⟨b,0,none⟩)) (hy:a.eval y=.agg c')
 (hi:(P.info? ty).map (·.size)=some c'.size) (hc:c.size=c'.size) (h1:c'.all (·.oneCell')=true)
 (h:wpList P ops Q rest (a.put op.dst undef) (w.alloc (.cells c' ty))):wpList P ops Q (op::rest) a (w.alloc (.cells c ty)):=by
 subst hb
 exact ak hgd ty x y ho c c' hx hy hi hc h1 h
def Ei (B N:Nat) (x:ag) (w:World) (e:Ending) (w':World):Prop:=∃ cs,e=.returned (.agg cs.toArray)∧bF w.heap.size none w' (fun c=>Below B w c→ag.At c c.heap.size N x cs)∧Below w.heap.size w w'
def Bd (B N:Nat) (l:List al) (w:World) (e:Ending) (w':World):Prop:=∃ ad cp,e=.returned (.slice ad l.length cp)∧bF w.heap.size none w' (fun c=>Below B w c→av c c.heap.size N l ad)∧Below w.heap.size w w'
def r9 (x:ag):Prop:=∀ (w:World) (B N:Nat) (cs:List Value),N≤1048576→B≤w.heap.size→ag.At w B N x cs→Calls Tryz.prog 47 #[.agg cs.toArray] w (Ei B N x w)
def tQ (l:List al):Prop:=∀ (w:World) (B N:Nat) (a:Option Addr) (c:Nat),l.length≤N→N≤1048576→B≤w.heap.size→av w B N l a→Calls Tryz.prog 48 #[.slice a l.length c] w (Bd B N l w)
set_option maxRecDepth 100000 in
set_option maxHeartbeats 6400000 in
theorem kQ (x:ag) (hA:∀ k (h:k<x.args.length),r9 x.args[k]) (hF:tQ x.funcs):r9 x:=by
 intro w B N cs hN hB hx
 obtain ⟨z0,hz0s,hinfo⟩:=AX
 obtain ⟨i0,hi,hz0,hz1,hz2⟩:=info_parts hinfo
 have HI:=Hd hi
 have HZ0:=Hd hz0
 have HZ1:=Hd hz1
 have HZ2:=Hd hz2
 have HZS:=Hd hz0s
 clear hi hz0 hz1 hz2 hz0s hinfo
 obtain ⟨ya,la,va,aa,fa,yc,lc,vc,ac,fc,hcs,hown,hvown,hy,hl,hv,has,hfs⟩:=hx.row
 have HX:=Hd hx
 have HA:=Hd hA
 have HF:=Hd hF
 have HOWN:=Hd hown
 have HVO:=Hd hvown
 have HY:=Hd hy
 have HL:=Hd hl
 have HV:=Hd hv
 have HAS:=Hd has
 have HFS:=Hd hfs
 have hal:x.args.length≤N:=hown.2.2.1
 have hfl:x.funcs.length≤N:=hown.2.2.2
 have c15:cs[15]?=some (.slice aa x.args.length ac):=by rw [hcs];rfl
 have c16:cs[16]?=some (.slice fa x.funcs.length fc):=by rw [hcs];rfl
 have hlen:=hx.len
 have HCS:=Hd hcs
 have hl0:=Hd (show (Tryz.prog.info? 34).map (·.size)=some cs.length by rw [hlen];exact ay)
 have hl02:=Hd (show (Tryz.prog.info? 34).map (·.size)=some cs.toArray.size by rw [List.size_toArray,hlen];exact ay)
 have hl03:=Hd (show bH.size=cs.toArray.size by show 17=_;rw [List.size_toArray,hlen])
 have hone0:=Hd (show cs.toArray.all (·.oneCell')=true from Go.all_oneCell_toArray hx.one)
 have hb0:Below w.heap.size w (((w.alloc (.cells cs.toArray 34)).alloc (.cells zE0 34)).alloc (.cells cs.toArray 34)):=ae (ae (af w _) (af _ _)) (af _ _)
 have H0:=Hd hb0
 have hsz:(((w.alloc (.cells cs.toArray 34)).alloc (.cells zE0 34)).alloc (.cells cs.toArray 34)).heap.size=w.heap.size+3:=by rw [World.size_alloc,World.size_alloc,World.size_alloc]
 have HBX0:=Hd (aA w cs 34)
 clear hx hA hF hown hvown hy hl hv has hfs hcs hb0 hlen
 go_enter Tryz.func47,Tryz.ntmps47
 go_wp2_with (first
  | (refine wpList_load_mid rfl 34 _ rfl w.heap.size 0 rfl cs _ (HBX0.out.then (af _ _) (by rw [World.size_alloc];omega)).range Tryz.underlying34 rfl hl0.out ?_)
  | (refine jD rfl 34 _ _ rfl (w.heap.size+1+1) (by rw [World.size_alloc,World.size_alloc]) bH cs.toArray rfl rfl hl02.out hl03.out hone0.out ?_))
 refine (HF.out _ B N fa fc hfl hN (Nat.le_trans hB H0.out.size) (av.below (H0.out.mono hB) _ HFS.out)).mono ?_
 rintro e w1 ⟨fb,fd,rfl,hsafe1,hb1⟩
 have S1:=Hd (show bF (w.heap.size+3) none w1 (fun c=>Below B w c→av c c.heap.size N x.funcs fb) from fun c hc hbc=>hsafe1 c (by rw [hsz];exact hc) (cm (H0.out.mono hB) hbc (by have h1:=hc.1;have h2:=hb1.size;omega)))
 have R0:=Hd (show aj w1 w.heap.size 0 cs from ((HBX0.out.then (af _ _) (by rw [World.size_alloc];omega)).then (af _ _) (by rw [World.size_alloc,World.size_alloc];omega)).then hb1 (by rw [hsz];omega))
 have R1:=Hd (show bE w1 (w.heap.size+1) bH.toList from by
  refine bE.below (B:=w.heap.size+3) ?_ (by rw [← hsz];exact hb1) (by omega)
  refine bE.alloc ?_ (by rw [World.size_alloc,World.size_alloc];omega) _
  have:=heap_alloc_new (w.alloc (.cells cs.toArray 34)) (.cells zE0 34)
  rw [World.size_alloc] at this
  exact this)
 have R2:=Hd (show bE w1 (w.heap.size+2) cs from by
  refine bE.below (B:=w.heap.size+3) ?_ (by rw [← hsz];exact hb1) (by omega)
  have:=heap_alloc_new ((w.alloc (.cells cs.toArray 34)).alloc (.cells zE0 34)) (.cells cs.toArray 34)
  rw [World.size_alloc,World.size_alloc] at this
  exact this)
 have H1:=Hd (ae H0.out hb1)
 have hs1:w.heap.size+3≤w1.heap.size:=by have:=hb1.size;omega
 have d15:=R2.out.cell c15
 have d16:=R2.out.cell c16
 have f15:=R2.out.frozen 15
 have f16:=R2.out.frozen 16
 have e15:=R0.out.get0 c15
 clear hsafe1 hb1 hsz
 obtain ⟨w2,hw2⟩:∃ w2,w2=(w1.setCell ⟨w.heap.size+2,15,none⟩ (.slice none 0 0)).setCell ⟨w.heap.size+2,16,none⟩ (.slice fb x.funcs.length fd):=⟨_,rfl⟩
 have R3:=Hd (show bE w2 (w.heap.size+2) (kW x ya la va yc lc vc (.slice none 0 0) (.slice fb x.funcs.length fd)) from by
  unfold bE
  rw [hw2,heap_setCell_same _ (w.heap.size+2) 16 _ _ _ (heap_setCell_same w1 (w.heap.size+2) 15 _ _ _ R2.out),HCS.out]
  rfl)
 have R4:=Hd (show bE w2 (w.heap.size+1) bH.toList from by
  unfold bE
  rw [hw2,heap_setCell_other _ _ _ _ (by simp),heap_setCell_other _ _ _ _ (by simp)]
  exact R1.out)
 have S2:=Hd (show bF (w.heap.size+3) none w2 (fun c=>Below B w c→av c c.heap.size N x.funcs fb) from
  S1.out.next (show bO (w.heap.size+3) none w1 w2 from ⟨by rw [hw2];simp,fun q h1 _ _=>by rw [hw2,heap_setCell_other _ _ _ _ (by simp;omega),heap_setCell_other _ _ _ _ (by simp;omega)]⟩) (fun q _ h=>by cases h))
 have H2:=Hd (show Below w.heap.size w w2 by rw [hw2];exact (H1.out.setCell (by simp) _).setCell (by simp) _)
 have hs2:w.heap.size+3≤w2.heap.size:=by rw [hw2];simpa using hs1
 have HW2:=Hd hw2
 clear R0 R1 R2 S1 H1 hw2 hs1
 go_wp2_with fail
 rw [← HW2.out]
 clear d15 d16 f15 f16 e15
 go_simp
 go_loopw [15] (fun i wr=>∃ (k:Nat) (xs:List Value) (s:Value),k≤x.args.length∧i=.int .i64 k∧Hid (wr.ownsRow (w.heap.size+3) 34 17 s k xs) ∧
  Hid (∀ j (hj:j<x.args.length),j<k→bF (w.heap.size+3) s.ownBlock wr (fun c=>Below B w c→ag.At c c.heap.size N x.args[j] ((xs.drop (j * 17)).take 17))) ∧
  Hid (bF (w.heap.size+3) s.ownBlock wr (fun c=>Below B w c→av c c.heap.size N x.funcs fb)) ∧
  Hid (bE wr (w.heap.size+2) (kW x ya la va yc lc vc s (.slice fb x.funcs.length fd)))∧Hid (bE wr (w.heap.size+1) bH.toList)∧Hid (Below w.heap.size w wr)∧w.heap.size+3≤wr.heap.size)
  (fun i _=>x.args.length-(intOf i).toNat)
 case atStart=>exact ⟨0,[],_,by omega,rfl,Hd (World.ownsRow_nil _ _ _ _),Hd (fun j _ hj=>absurd hj (by omega)),S2,R3,R4,H2,hs2⟩
 case round =>
  obtain ⟨w4,rfl⟩:∃ w4,w4=wr:=⟨wr,rfl⟩
  clear S2 R3 R4 H2 hs2 HW2
  obtain ⟨k,xs,s,hk,rfl,HO,HCH,S4,R4,R5,H4,hs4⟩:=hrel
  by_cases hlt:k<x.args.length
  ·obtain ⟨b,o,rfl,hb,hget⟩:=HAS.out.get (by intro h;simp [h] at hlt)
   obtain ⟨cs1,h1,h2⟩:=hget k hlt
   have HR:=Hd (h1.below (H4.out.mono hB) hb).range
   have HX5:=Hd (h2.below (H4.out.mono hB))
   have hl1:=Hd (show (Tryz.prog.info? 34).map (·.size)=some cs1.length by rw [h2.len];exact ay)
   have hl2:=Hd (show (Tryz.prog.info? 34).map (·.size)=some cs1.toArray.size by rw [List.size_toArray,h2.len];exact ay)
   have hl3:=Hd (show bH.size=cs1.toArray.size by show 17=_;rw [List.size_toArray,h2.len])
   have hone:=Hd (show cs1.toArray.all (·.oneCell')=true from Go.all_oneCell_toArray h2.one)
   clear h1 h2 hget
   go_wp2_with (first
    | (refine wpList_load_mid rfl 34 _ rfl b (o+k * 17) rfl cs1 _ HR.out Tryz.underlying34 rfl hl1.out ?_)
    | (refine ak rfl 34 _ _ rfl bH cs1.toArray rfl rfl hl2.out hl3.out hone.out ?_))
   have D3:=Hd (show Below (w4.alloc (.cells cs1.toArray 34)).heap.size (w4.alloc (.cells cs1.toArray 34)) (w4.alloc (.cells cs1.toArray 34)).drew from ⟨rfl,rfl,rfl,Nat.le_refl _,fun _ _=>rfl⟩)
   have HBX:=Hd (show bE (w4.alloc (.cells cs1.toArray 34)).drew w4.heap.size cs1 from heap_alloc_new w4 _)
   have RX:=Hd (show bE (w4.alloc (.cells cs1.toArray 34)).drew (w.heap.size+2) (kW x ya la va yc lc vc s (.slice fb x.funcs.length fd)) from R4.out.alloc (by omega) _)
   obtain ⟨wD,hwD⟩:∃ wD,wD=(w4.alloc (.cells cs1.toArray 34)).drew:=⟨_,rfl⟩
   have DB:=Hd (show Below w4.heap.size w4 wD by rw [hwD];exact ae (af w4 _) D3.out)
   have hsD:w4.heap.size+1=wD.heap.size:=by rw [hwD];exact (World.size_alloc _ _).symm
   have HWD:=Hd hwD
   have hsDD:(w4.alloc (.cells cs1.toArray 34)).heap.size=wD.heap.size:=by rw [World.size_alloc];exact hsD
   refine wp_region_held_drew (S:=fun u=>bE u w4.heap.size cs1) (by kernel_rfl) HBX.out (fun hHeld=>?_)
   rw [← hwD] at hHeld HBX RX ⊢
   clear hwD D3
   refine' tk 0 (.pointer (some ⟨w.heap.size+2,15,none⟩)) rfl rfl (.inl ⟨by rfl,fun u hu=>(by go_simp)⟩) hHeld ?_
   simp only [sq1,sq0]
   refine' tk 2 _ rfl rfl (yieldsIf_load_mid (by kernel_rfl) 34 _ rfl (w4.heap.size) (0) rfl cs1 _ (fun u hu=>bE.range hu) Tryz.underlying34 rfl hl1.out) hHeld ?_
   simp only [sq1,sq0]
   refine wpAnyH_ready (rs:=[1,3]) (by kernel_rfl) (by simp) ?_
   refine AllReadyH.cons rfl (fun K hK=>?_) (AllReadyH.cons rfl (fun K hK=>?_) AllReadyH.nil)
   ·have RXc:=RX
    have hc:=RXc.out.cell (iG _ _ _ _ _ _ _ _ _)
    go_simp
    refine hK.out _ _ hHeld (fun hHeldx=>?_)
    clear hK K hc hHeldx
    refine rd1 3 rfl (fun K hK=>?_)
    go_simp
    refine (HA.out k hlt _ B N cs1 hN (by omega) (HX5.out.below (DB.out.mono (by omega)))).mono ?_
    rintro e w6 ⟨cs2,rfl,hsafe,hb6⟩
    have HS:=Hd hsafe
    have HB6:=Hd hb6
    have H6:=Hd (ae DB.out hb6)
    have hcp:=hsafe.here ((hb6.mono (by omega)))
    have hlen2:=hcp.len
    have HON:=Hd hcp.one
    have hfz:=dk cs2 zE0 hcp.len.symm
    have RXd:=Hd (bE.below RX.out hb6 (by omega))
    have hHeld6:bE w6 w4.heap.size cs1:=bE.below hHeld hb6 (by omega)
    have hs6:wD.heap.size≤w6.heap.size:=hb6.size
    have HO5:=Hd (fm HO.out H6.out)
    refine hK.out _ _ hHeld6 (fun hHeld=>?_)
    clear hK K hb6 hsafe hcp hHeld6
    refine rd1 4 rfl (fun K hK=>?_)
    go_simp
    have hh6:bE (w6.alloc (.cells cs2.toArray 34)) w4.heap.size cs1:=hHeld.alloc (by omega) _
    refine hK.out _ _ hh6 (fun hHeld=>?_)
    clear hK K hh6
    refine rd1 5 rfl (fun K hK=>?_)
    refine step_append_lies _ rfl (.tmp 20) (.tmp 23) 31 rfl (w.heap.size+3) 34 i0 (.agg z0) 17 240 Tryz.underlying31 HI.out HZ0.out HZ1.out HZ2.out HZS.out (by decide) s k xs rfl (HO5.out.alloc _) ⟨w6.heap.size,0,none⟩ 1 1 cs2 rfl (by rw [hlen2]) ?_ HON.out (by decide) (by unfold maxLen;omega) (by omega) (by rw [World.size_alloc];omega) _ rfl ?_
    ·intro j u hj
     rw [bP,World.cell?_alloc_new]
     simpa using hj
    intro g cap w7 hown7 hgrow7 hlie7 hlt7
    have hf:=ef (L:=w.heap.size+3) hs4 (fun q hq=>HO.out.lt q hq) (wr:=w4) (o:=.cells cs1.toArray 34) (by rw [HWD.out] at HB6;exact iR HB6.out) hgrow7 hlie7
    have HO7:=Hd hown7
    have HSF:=Hd hf
    have hs7:w.heap.size+3≤w7.heap.size:=by have:=hf.2.2.size;omega
    have RX7:=Hd (show bE w7 (w.heap.size+2) (kW x ya la va yc lc vc s (.slice fb x.funcs.length fd)) from R4.out.below HSF.out.2.2 (by omega))
    have hh7:bE w7 w4.heap.size cs1:=hHeld.grown hgrow7 (by rw [World.size_alloc];omega) (fun e=>by have:=(HO.out.lt w4.heap.size e.symm).2;omega)
    have hs67:wD.heap.size≤w7.heap.size:=by have h1:=hgrow7.size;rw [World.size_alloc] at h1;omega
    clear hown7 hgrow7 hlie7 hf
    refine hK.out _ _ hh7 (fun hHeld=>?_)
    clear hK K hh7
    simp only [Act.put]
    refine rd1 6 rfl (fun K hK=>?_)
    go_simp
    refine hK.out _ _ hHeld (fun hHeldx=>?_)
    clear hK K hHeldx
    refine rd1 7 rfl (fun K hK=>?_)
    have hc:=RX7.out.cell (iG _ _ _ _ _ _ _ _ _)
    have hf15:=RX7.out.frozen 15
    go_simp
    have RX8:=Hd (show bE (w7.setCell ⟨w.heap.size+2,15,none⟩ (.slice (some ⟨g,0,none⟩) (k+1) cap)) (w.heap.size+2) (kW x ya la va yc lc vc (.slice (some ⟨g,0,none⟩) (k+1) cap) (.slice fb x.funcs.length fd)) from by
     unfold bE
     rw [heap_setCell_same w7 (w.heap.size+2) 15 _ _ _ RX7.out]
     rfl)
    have KP8:=Hd (show bO (w.heap.size+3) none w7 (w7.setCell ⟨w.heap.size+2,15,none⟩ (.slice (some ⟨g,0,none⟩) (k+1) cap)) from ⟨by simp,fun q h1 _ _=>heap_setCell_other _ _ _ _ (by simp;omega)⟩)
    have B8:=Hd (show Below (w.heap.size+2) w4 (w7.setCell ⟨w.heap.size+2,15,none⟩ (.slice (some ⟨g,0,none⟩) (k+1) cap)) from (show Below (w.heap.size+2) w4 w7 from HSF.out.2.2.mono (by omega)).setCell (Nat.le_refl _) _)
    have hh8:bE (w7.setCell ⟨w.heap.size+2,15,none⟩ (.slice (some ⟨g,0,none⟩) (k+1) cap)) w4.heap.size cs1:=by
     unfold bE
     rw [heap_setCell_other _ _ _ _ (by simp;omega)]
     exact hHeld
    refine hK.out _ _ hh8 (fun hHeldx=>?_)
    clear hK K hh8 hHeldx
    refine wpAnyH_done (by kernel_rfl) ?_ _
    go_wp2_with fail
    go_roundw
    case rel =>
     refine ⟨k+1,xs++cs2,_,by omega,by go_num,Hd (dt HO7.out KP8.out (Nat.le_refl _)),Hd (fun j hj hjk=>?_),?_,RX8,?_,?_,?_⟩
     ·rw [dy HO.out.1 hlen2 hjk]
      split
      ·exact ((HCH.out j hj ‹_›).next HSF.out.1.1 HSF.out.1.2).next KP8.out.weak (fun q _ h=>.inl h)
      ·obtain rfl:j=k:=by omega
       exact fun c hc hbc=>((HS.out.next (by rw [← hsDD];exact HSF.out.2.1.1) (by rw [← hsDD];exact HSF.out.2.1.2)).wide (L:=w.heap.size+3) (by omega)).next KP8.out.weak (fun q _ h=>.inl h) c hc (cm ((ae H4.out DB.out).mono hB) hbc (Nat.le_trans hs67 (show w7.heap.size≤c.heap.size by simpa using hc.1)))
     ·exact Hd ((S4.out.next HSF.out.1.1 HSF.out.1.2).next KP8.out.weak (fun q _ h=>.inl h))
     ·exact Hd (R5.out.below B8.out (by omega))
     ·exact Hd (H4.out.trans (B8.out.mono (by omega)))
     ·have h1:w.heap.size+3≤w7.heap.size:=hs7
      simpa using h1
    case measure=>simp [intOf];omega
   ·go_simp
    refine (HA.out k hlt _ B N cs1 hN (by omega) (HX5.out.below (DB.out.mono (by omega)))).mono ?_
    rintro e w6 ⟨cs2,rfl,hsafe,hb6⟩
    have HS:=Hd hsafe
    have HB6:=Hd hb6
    have H6:=Hd (ae DB.out hb6)
    have hcp:=hsafe.here ((hb6.mono (by omega)))
    have hlen2:=hcp.len
    have HON:=Hd hcp.one
    have hfz:=dk cs2 zE0 hcp.len.symm
    have RXd:=Hd (bE.below RX.out hb6 (by omega))
    have hHeld6:bE w6 w4.heap.size cs1:=bE.below hHeld hb6 (by omega)
    have hs6:wD.heap.size≤w6.heap.size:=hb6.size
    have HO5:=Hd (fm HO.out H6.out)
    refine hK.out _ _ hHeld6 (fun hHeld=>?_)
    clear hK K hb6 hsafe hcp hHeld6
    refine wpAnyH_ready (rs:=[1,4]) (by kernel_rfl) (by simp) ?_
    refine AllReadyH.cons rfl (fun K hK=>?_) (AllReadyH.cons rfl (fun K hK=>?_) AllReadyH.nil)
    ·have RXc:=RXd
     have hc:=RXc.out.cell (iG _ _ _ _ _ _ _ _ _)
     go_simp
     refine hK.out _ _ hHeld (fun hHeldx=>?_)
     clear hK K hc hHeldx
     refine rd1 4 rfl (fun K hK=>?_)
     go_simp
     have hh6:bE (w6.alloc (.cells cs2.toArray 34)) w4.heap.size cs1:=hHeld.alloc (by omega) _
     refine hK.out _ _ hh6 (fun hHeld=>?_)
     clear hK K hh6
     refine rd1 5 rfl (fun K hK=>?_)
     refine step_append_lies _ rfl (.tmp 20) (.tmp 23) 31 rfl (w.heap.size+3) 34 i0 (.agg z0) 17 240 Tryz.underlying31 HI.out HZ0.out HZ1.out HZ2.out HZS.out (by decide) s k xs rfl (HO5.out.alloc _) ⟨w6.heap.size,0,none⟩ 1 1 cs2 rfl (by rw [hlen2]) ?_ HON.out (by decide) (by unfold maxLen;omega) (by omega) (by rw [World.size_alloc];omega) _ rfl ?_
     ·intro j u hj
      rw [bP,World.cell?_alloc_new]
      simpa using hj
     intro g cap w7 hown7 hgrow7 hlie7 hlt7
     have hf:=ef (L:=w.heap.size+3) hs4 (fun q hq=>HO.out.lt q hq) (wr:=w4) (o:=.cells cs1.toArray 34) (by rw [HWD.out] at HB6;exact iR HB6.out) hgrow7 hlie7
     have HO7:=Hd hown7
     have HSF:=Hd hf
     have hs7:w.heap.size+3≤w7.heap.size:=by have:=hf.2.2.size;omega
     have RX7:=Hd (show bE w7 (w.heap.size+2) (kW x ya la va yc lc vc s (.slice fb x.funcs.length fd)) from R4.out.below HSF.out.2.2 (by omega))
     have hh7:bE w7 w4.heap.size cs1:=hHeld.grown hgrow7 (by rw [World.size_alloc];omega) (fun e=>by have:=(HO.out.lt w4.heap.size e.symm).2;omega)
     have hs67:wD.heap.size≤w7.heap.size:=by have h1:=hgrow7.size;rw [World.size_alloc] at h1;omega
     clear hown7 hgrow7 hlie7 hf
     refine hK.out _ _ hh7 (fun hHeld=>?_)
     clear hK K hh7
     simp only [Act.put]
     refine rd1 6 rfl (fun K hK=>?_)
     go_simp
     refine hK.out _ _ hHeld (fun hHeldx=>?_)
     clear hK K hHeldx
     refine rd1 7 rfl (fun K hK=>?_)
     have hc:=RX7.out.cell (iG _ _ _ _ _ _ _ _ _)
     have hf15:=RX7.out.frozen 15
     go_simp
     have RX8:=Hd (show bE (w7.setCell ⟨w.heap.size+2,15,none⟩ (.slice (some ⟨g,0,none⟩) (k+1) cap)) (w.heap.size+2) (kW x ya la va yc lc vc (.slice (some ⟨g,0,none⟩) (k+1) cap) (.slice fb x.funcs.length fd)) from by
      unfold bE
      rw [heap_setCell_same w7 (w.heap.size+2) 15 _ _ _ RX7.out]
      rfl)
     have KP8:=Hd (show bO (w.heap.size+3) none w7 (w7.setCell ⟨w.heap.size+2,15,none⟩ (.slice (some ⟨g,0,none⟩) (k+1) cap)) from ⟨by simp,fun q h1 _ _=>heap_setCell_other _ _ _ _ (by simp;omega)⟩)
     have B8:=Hd (show Below (w.heap.size+2) w4 (w7.setCell ⟨w.heap.size+2,15,none⟩ (.slice (some ⟨g,0,none⟩) (k+1) cap)) from (show Below (w.heap.size+2) w4 w7 from HSF.out.2.2.mono (by omega)).setCell (Nat.le_refl _) _)
     have hh8:bE (w7.setCell ⟨w.heap.size+2,15,none⟩ (.slice (some ⟨g,0,none⟩) (k+1) cap)) w4.heap.size cs1:=by
      unfold bE
      rw [heap_setCell_other _ _ _ _ (by simp;omega)]
      exact hHeld
     refine hK.out _ _ hh8 (fun hHeldx=>?_)
     clear hK K hh8 hHeldx
     refine wpAnyH_done (by kernel_rfl) ?_ _
     go_wp2_with fail
     go_roundw
     case rel =>
      refine ⟨k+1,xs++cs2,_,by omega,by go_num,Hd (dt HO7.out KP8.out (Nat.le_refl _)),Hd (fun j hj hjk=>?_),?_,RX8,?_,?_,?_⟩
      ·rw [dy HO.out.1 hlen2 hjk]
       split
       ·exact ((HCH.out j hj ‹_›).next HSF.out.1.1 HSF.out.1.2).next KP8.out.weak (fun q _ h=>.inl h)
       ·obtain rfl:j=k:=by omega
        exact fun c hc hbc=>((HS.out.next (by rw [← hsDD];exact HSF.out.2.1.1) (by rw [← hsDD];exact HSF.out.2.1.2)).wide (L:=w.heap.size+3) (by omega)).next KP8.out.weak (fun q _ h=>.inl h) c hc (cm ((ae H4.out DB.out).mono hB) hbc (Nat.le_trans hs67 (show w7.heap.size≤c.heap.size by simpa using hc.1)))
      ·exact Hd ((S4.out.next HSF.out.1.1 HSF.out.1.2).next KP8.out.weak (fun q _ h=>.inl h))
      ·exact Hd (R5.out.below B8.out (by omega))
      ·exact Hd (H4.out.trans (B8.out.mono (by omega)))
      ·have h1:w.heap.size+3≤w7.heap.size:=hs7
       simpa using h1
     case measure=>simp [intOf];omega
    ·go_simp
     have hh6:bE (w6.alloc (.cells cs2.toArray 34)) w4.heap.size cs1:=hHeld.alloc (by omega) _
     refine hK.out _ _ hh6 (fun hHeld=>?_)
     clear hK K hh6
     have RXc:=Hd (RXd.out.alloc (by omega) (.cells cs2.toArray 34))
     refine rd1 1 rfl (fun K hK=>?_)
     have hc:=RXc.out.cell (iG _ _ _ _ _ _ _ _ _)
     go_simp
     refine hK.out _ _ hHeld (fun hHeldx=>?_)
     clear hK K hc hHeldx
     refine rd1 5 rfl (fun K hK=>?_)
     refine step_append_lies _ rfl (.tmp 20) (.tmp 23) 31 rfl (w.heap.size+3) 34 i0 (.agg z0) 17 240 Tryz.underlying31 HI.out HZ0.out HZ1.out HZ2.out HZS.out (by decide) s k xs rfl (HO5.out.alloc _) ⟨w6.heap.size,0,none⟩ 1 1 cs2 rfl (by rw [hlen2]) ?_ HON.out (by decide) (by unfold maxLen;omega) (by omega) (by rw [World.size_alloc];omega) _ rfl ?_
     ·intro j u hj
      rw [bP,World.cell?_alloc_new]
      simpa using hj
     intro g cap w7 hown7 hgrow7 hlie7 hlt7
     have hf:=ef (L:=w.heap.size+3) hs4 (fun q hq=>HO.out.lt q hq) (wr:=w4) (o:=.cells cs1.toArray 34) (by rw [HWD.out] at HB6;exact iR HB6.out) hgrow7 hlie7
     have HO7:=Hd hown7
     have HSF:=Hd hf
     have hs7:w.heap.size+3≤w7.heap.size:=by have:=hf.2.2.size;omega
     have RX7:=Hd (show bE w7 (w.heap.size+2) (kW x ya la va yc lc vc s (.slice fb x.funcs.length fd)) from R4.out.below HSF.out.2.2 (by omega))
     have hh7:bE w7 w4.heap.size cs1:=hHeld.grown hgrow7 (by rw [World.size_alloc];omega) (fun e=>by have:=(HO.out.lt w4.heap.size e.symm).2;omega)
     have hs67:wD.heap.size≤w7.heap.size:=by have h1:=hgrow7.size;rw [World.size_alloc] at h1;omega
     clear hown7 hgrow7 hlie7 hf
     refine hK.out _ _ hh7 (fun hHeld=>?_)
     clear hK K hh7
     simp only [Act.put]
     refine rd1 6 rfl (fun K hK=>?_)
     go_simp
     refine hK.out _ _ hHeld (fun hHeldx=>?_)
     clear hK K hHeldx
     refine rd1 7 rfl (fun K hK=>?_)
     have hc:=RX7.out.cell (iG _ _ _ _ _ _ _ _ _)
     have hf15:=RX7.out.frozen 15
     go_simp
     have RX8:=Hd (show bE (w7.setCell ⟨w.heap.size+2,15,none⟩ (.slice (some ⟨g,0,none⟩) (k+1) cap)) (w.heap.size+2) (kW x ya la va yc lc vc (.slice (some ⟨g,0,none⟩) (k+1) cap) (.slice fb x.funcs.length fd)) from by
      unfold bE
      rw [heap_setCell_same w7 (w.heap.size+2) 15 _ _ _ RX7.out]
      rfl)
     have KP8:=Hd (show bO (w.heap.size+3) none w7 (w7.setCell ⟨w.heap.size+2,15,none⟩ (.slice (some ⟨g,0,none⟩) (k+1) cap)) from ⟨by simp,fun q h1 _ _=>heap_setCell_other _ _ _ _ (by simp;omega)⟩)
     have B8:=Hd (show Below (w.heap.size+2) w4 (w7.setCell ⟨w.heap.size+2,15,none⟩ (.slice (some ⟨g,0,none⟩) (k+1) cap)) from (show Below (w.heap.size+2) w4 w7 from HSF.out.2.2.mono (by omega)).setCell (Nat.le_refl _) _)
     have hh8:bE (w7.setCell ⟨w.heap.size+2,15,none⟩ (.slice (some ⟨g,0,none⟩) (k+1) cap)) w4.heap.size cs1:=by
      unfold bE
      rw [heap_setCell_other _ _ _ _ (by simp;omega)]
      exact hHeld
     refine hK.out _ _ hh8 (fun hHeldx=>?_)
     clear hK K hh8 hHeldx
     refine wpAnyH_done (by kernel_rfl) ?_ _
     go_wp2_with fail
     go_roundw
     case rel =>
      refine ⟨k+1,xs++cs2,_,by omega,by go_num,Hd (dt HO7.out KP8.out (Nat.le_refl _)),Hd (fun j hj hjk=>?_),?_,RX8,?_,?_,?_⟩
      ·rw [dy HO.out.1 hlen2 hjk]
       split
       ·exact ((HCH.out j hj ‹_›).next HSF.out.1.1 HSF.out.1.2).next KP8.out.weak (fun q _ h=>.inl h)
       ·obtain rfl:j=k:=by omega
        exact fun c hc hbc=>((HS.out.next (by rw [← hsDD];exact HSF.out.2.1.1) (by rw [← hsDD];exact HSF.out.2.1.2)).wide (L:=w.heap.size+3) (by omega)).next KP8.out.weak (fun q _ h=>.inl h) c hc (cm ((ae H4.out DB.out).mono hB) hbc (Nat.le_trans hs67 (show w7.heap.size≤c.heap.size by simpa using hc.1)))
      ·exact Hd ((S4.out.next HSF.out.1.1 HSF.out.1.2).next KP8.out.weak (fun q _ h=>.inl h))
      ·exact Hd (R5.out.below B8.out (by omega))
      ·exact Hd (H4.out.trans (B8.out.mono (by omega)))
      ·have h1:w.heap.size+3≤w7.heap.size:=hs7
       simpa using h1
     case measure=>simp [intOf];omega
  ·obtain rfl:k=x.args.length:=by omega
   obtain ⟨ad,cp,rfl,hcp,hes⟩:=rI (N:=N) (L:=w.heap.size+3) (l:=x.args) HO.out rfl (Nat.le_refl _) (fun i hi=>HCH.out i hi hi)
   have SE:=Hd hes
   have HCAP:=Hd hcp
   have SF:=Hd S4.out.weak
   clear hes HCH S4 hcp
   obtain ⟨ro,hro⟩:∃ ro,ro=kW x ya la va yc lc vc (.slice ad x.args.length cp) (.slice fb x.funcs.length fd):=⟨_,rfl⟩
   have hrl:ro.length=17:=by rw [hro];rfl
   have hr1:ro.toArray.all (·.oneCell')=true:=by rw [hro];exact Go.all_oneCell_toArray (fun u hu=>by
    simp only [kW,List.mem_cons,List.mem_nil_iff,or_false] at hu
    rcases hu with rfl | rfl | rfl | rfl | rfl | rfl | rfl | rfl | rfl | rfl | rfl | rfl | rfl | rfl | rfl | rfl | rfl<;>rfl)
   have hsr:=Hd (show (Tryz.prog.info? 34).map (·.size)=some ro.length by rw [hrl];exact ay)
   have hsr2:=Hd (show (Tryz.prog.info? 34).map (·.size)=some ro.toArray.size by rw [List.size_toArray,hrl];exact ay)
   have hsr3:=Hd (show bH.size=ro.toArray.size by show 17=_;rw [List.size_toArray,hrl])
   have hone:=Hd hr1
   have HRO:=Hd hro
   rw [← hro] at R4
   clear hro hr1 hrl
   go_wp2_with (first
    | (refine wpList_load_mid rfl 34 _ rfl (w.heap.size+2) 0 rfl ro _ R4.out.range Tryz.underlying34 rfl hsr.out ?_)
    | (refine wpList_store_row rfl 34 _ _ rfl (w.heap.size+1) ro.toArray rfl rfl 34 bH R5.out hsr2.out hsr3.out hone.out ?_))
   refine bodyPost_ret (results_cell_row rfl _ _ (w.heap.size+1) 34 _ (0,0) _ rfl (setRow_heap _ _ _ _ _ _ R5.out) Tryz.underlying34 rfl hsr2.out) rfl ?_
   refine ⟨ro,rfl,?_,below_setRow H4.out (by omega) _⟩
   have hkeep:bO (w.heap.size+3) none w4 (w4.setRow (w.heap.size+1) ro.toArray):=⟨by simp,fun q h1 _ _=>setRow_other _ _ _ _ (by omega)⟩
   intro c hc hbc
   have hc3:=hkeep.step (hc.wide (show w.heap.size≤w.heap.size+3 by omega)) (fun q _ h=>by cases h)
   have hBc:B≤c.heap.size:=Nat.le_trans hB hbc.size
   rw [HRO.out]
   exact ag.At.mk HOWN.out HVO.out ((HY.out.below hbc).mono hBc) (bm.mono hBc _ (bm.below hbc _ HL.out)) (aN.mono hBc _ (aN.below hbc _ HV.out)) (SE.out c hc3 hbc) (SF.out c hc3 hbc) HCAP.out
set_option maxRecDepth 100000 in
set_option maxHeartbeats 6400000 in
theorem fw (l:List al) (hA:∀ k (h:k<l.length),r9 l[k].body):tQ l:=by
 intro w B N a c hln hN hB hx
 obtain ⟨z0,hz0s,hinfo⟩:=BQ
 obtain ⟨i0,hi,hz0,hz1,hz2⟩:=info_parts hinfo
 have HI:=Hd hi
 have HZ0:=Hd hz0
 have HZ1:=Hd hz1
 have HZ2:=Hd hz2
 have HZS:=Hd hz0s
 clear hi hz0 hz1 hz2 hz0s hinfo
 obtain ⟨i1,hi,hz0,hz1,hz2⟩:=info_parts sZ
 have GI:=Hd hi
 have GZ0:=Hd hz0
 have GZ1:=Hd hz1
 have GZ2:=Hd hz2
 have HX:=Hd hx
 have HA:=Hd hA
 have H0:=Hd (Below.refl w.heap.size w)
 clear hi hz0 hz1 hz2 hx hA
 go_enter Tryz.func48,Tryz.ntmps48
 go_wp2_with fail
 go_simp
 go_loopw [3,8] (fun s i wr=>∃ (k:Nat) (xs:List Value),k≤l.length∧i=.int .i64 k∧Hid (wr.ownsRow w.heap.size 72 19 s k xs) ∧
  Hid (∀ j (hj:j<l.length),j<k→bF w.heap.size s.ownBlock wr (fun c=>Below B w c→al.At c c.heap.size N l[j] ((xs.drop (j * 19)).take 19)))∧Hid (Below w.heap.size w wr))
  (fun _ i _=>l.length-(intOf i).toNat)
 case atStart=>exact ⟨0,[],by omega,rfl,Hd (World.ownsRow_nil _ _ _ _),Hd (fun j _ hj=>absurd hj (by omega)),H0⟩
 case round =>
  obtain ⟨w4,rfl⟩:∃ w4,w4=wr:=⟨wr,rfl⟩
  obtain ⟨s,hs⟩:∃ s,s=u3:=⟨_,rfl⟩
  rw [← hs] at hrel ⊢
  clear hs H0
  obtain ⟨k,xs,hk,rfl,HO,HCH,H4⟩:=hrel
  have hs4:w.heap.size≤w4.heap.size:=H4.out.size
  by_cases hlt:k<l.length
  ·obtain ⟨b,o,rfl,hb,hget⟩:=HX.out.get (by intro h;simp [h] at hlt)
   obtain ⟨fs,h1,h2⟩:=hget k hlt
   obtain ⟨pa,pc,cs1,hf1⟩:=h2.has
   obtain ⟨nm,hnm⟩:∃ nm,nm=l[k].name:=⟨_,rfl⟩
   obtain ⟨np,hnp⟩:∃ np,np=l[k].params.length:=⟨_,rfl⟩
   have HF1:=Hd (show fs[0]?=some (.string nm)∧fs[1]?=some (.slice pa np pc)∧(fs.drop 2).take 17=cs1 by rw [hnm,hnp];exact ⟨hf1.name,hf1.params,by rw [hf1.body];exact List.take_of_length_le (by rw [hf1.atBody.len];omega)⟩)
   have HNM:=Hd hnm
   have HNP:=Hd hnp
   have hnpN:np≤1048576:=by have:=hf1.hp;omega
   have HNN:=Hd hf1.hn
   have HPA:=Hd hf1.atPar
   have HPN:=Hd (show np≤N∧∀ i (hi:i<l[k].params.length),l[k].params[i].name.size≤N from ⟨by rw [hnp];exact hf1.hp,fun i hi=>by
    obtain ⟨_,_,_,_,hg⟩:=hf1.atPar.get (by intro h;rw [h] at hi;simp at hi)
    exact (hg i hi).1⟩)
   have HR:=Hd (h1.below (H4.out.mono hB) hb).range
   have HX5:=Hd hf1.atBody
   have hflen:=hf1.len
   have hl1:=Hd (show (Tryz.prog.info? 34).map (·.size)=some cs1.length by rw [hf1.atBody.len];exact ay)
   have hg1:=Hd (show (Tryz.prog.info? 72).map (·.size)=some fs.length by rw [hflen];exact sw)
   have hg2:=Hd (show (Tryz.prog.info? 72).map (·.size)=some fs.toArray.size by rw [List.size_toArray,hflen];exact sw)
   have hg3:=Hd (show qU.size=fs.toArray.size by show 19=_;rw [List.size_toArray,hflen])
   have hone:=Hd (show fs.toArray.all (·.oneCell')=true from Go.all_oneCell_toArray hf1.one)
   clear h1 h2 hget hf1 hnm hnp
   go_wp2_with (first
    | (refine wpList_load_mid rfl 72 _ rfl b (o+k * 19) rfl fs _ HR.out Tryz.underlying72 rfl hg1.out ?_)
    | (refine ak rfl 72 _ _ rfl qU fs.toArray rfl rfl hg2.out hg3.out hone.out ?_))
   have BW:=Hd (show Below B w (w4.alloc (.cells fs.toArray 72)).drew from by
    have hq:Below w4.heap.size w4 (w4.alloc (.cells fs.toArray 72)).drew:=ae (af w4 _) ⟨rfl,rfl,rfl,Nat.le_refl _,fun _ _=>rfl⟩
    exact (ae H4.out hq).mono hB)
   have D3:=Hd (show Below (w4.alloc (.cells fs.toArray 72)).heap.size (w4.alloc (.cells fs.toArray 72)) (w4.alloc (.cells fs.toArray 72)).drew from ⟨rfl,rfl,rfl,Nat.le_refl _,fun _ _=>rfl⟩)
   have HBX:=Hd (show aj (w4.alloc (.cells fs.toArray 72)).drew w4.heap.size 0 fs from (aA w4 fs 72).below D3.out (by rw [World.size_alloc];omega))
   obtain ⟨wD,hwD⟩:∃ wD,wD=(w4.alloc (.cells fs.toArray 72)).drew:=⟨_,rfl⟩
   have DB:=Hd (show Below w4.heap.size w4 wD by rw [hwD];exact ae (af w4 _) D3.out)
   have hsD:w4.heap.size+1=wD.heap.size:=by rw [hwD];exact (World.size_alloc _ _).symm
   have hsDD:(w4.alloc (.cells fs.toArray 72)).heap.size=wD.heap.size:=by rw [World.size_alloc];exact hsD
   have HWD:=Hd hwD
   refine wp_region_held_drew (S:=fun u=>aj u w4.heap.size 0 fs) (by kernel_rfl) HBX.out (fun hHeld=>?_)
   rw [← hwD] at hHeld HBX BW ⊢
   clear hwD D3
   refine' tk 0 (s) rfl rfl (.inl ⟨by rfl,fun u hu=>(by go_simp)⟩) hHeld ?_
   simp only [sq1,sq0]
   refine' tk 1 (.pointer (some ⟨w4.heap.size,0,none⟩)) rfl rfl (.inl ⟨by rfl,fun u hu=>(by go_simp)⟩) hHeld ?_
   simp only [sq1,sq0]
   refine' tk 2 (.string nm) rfl rfl (.inl ⟨by rfl,fun u hu=>(by have hc:=aj.get0 hu HF1.out.1;go_simp)⟩) hHeld ?_
   simp only [sq1,sq0]
   refine' tk 3 (.pointer (some ⟨w4.heap.size,1,none⟩)) rfl rfl (.inl ⟨by rfl,fun u hu=>(by go_simp)⟩) hHeld ?_
   simp only [sq1,sq0]
   refine' tk 4 (.slice pa np pc) rfl rfl (.inl ⟨by rfl,fun u hu=>(by have hc:=aj.get0 hu HF1.out.2.1;go_simp)⟩) hHeld ?_
   simp only [sq1,sq0]
   refine' tk 6 (.pointer (some ⟨w4.heap.size,2,none⟩)) rfl rfl (.inl ⟨by rfl,fun u hu=>(by go_simp)⟩) hHeld ?_
   simp only [sq1,sq0]
   refine' tk 7 _ rfl rfl (yieldsIf_load_mid (by kernel_rfl) 34 _ rfl (w4.heap.size) (2) rfl cs1 _ (fun u hu=>(hu.part HF1.out.2.2)) Tryz.underlying34 rfl hl1.out) hHeld ?_
   simp only [sq1,sq0]
   refine rd1 5 rfl (fun K hK=>?_)
   refine kV _ rfl _ _ 70 rfl wD.heap.size 120 i1 (.agg #[.string ⟨#[]⟩,.bool false]) 2 24 Tryz.underlying70 GI.out GZ0.out GZ1.out GZ2.out rfl (by decide) _ 0 [] rfl (World.ownsRow_nil _ _ _ _) pa np pc (l[k].params.flatMap aZ.cells) rfl (by rw [sH,← HNP.out]) (aF.srcN HNP.out (aF.below (BW.out) _ HPA.out)) (sG _) (by unfold maxLen;omega) (by omega) (Nat.le_refl _) ?_
   intro pv wP hownP hgrowP
   have HOP:=Hd (show wP.ownsRow wD.heap.size 120 2 pv np ([]++l[k].params.flatMap aZ.cells) from by rw [Nat.zero_add] at hownP;exact hownP)
   have BP:=Hd (show Below wD.heap.size wD wP from (Below.refl _ _).grown hgrowP (Nat.le_refl _) (fun q hq=>by have hq2:(none:Option Nat)=some q:=hq;cases hq2))
   have hhP:aj wP w4.heap.size 0 fs:=hHeld.below BP.out (by omega)
   have hsP:wD.heap.size≤wP.heap.size:=BP.out.size
   clear hownP hgrowP
   refine hK.out _ _ hhP (fun hHeld=>?_)
   clear hK K hhP
   simp only [Act.put]
   have HBP:=Hd (BW.out.trans (BP.out.mono (by omega)))
   refine rd1 8 rfl (fun K hK=>?_)
   go_simp
   refine (HA.out k hlt wP B N cs1 hN (by omega) (HX5.out.below HBP.out)).mono ?_
   rintro e w6 ⟨cs2,rfl,hsafe,hb6⟩
   have HB6:=Hd hb6
   have hcp:=hsafe.here ((hb6.mono (by omega)))
   have hlen2:=hcp.len
   have HON:=Hd hcp.one
   have hh6:aj w6 w4.heap.size 0 fs:=hHeld.below hb6 (by omega)
   have hs6:wP.heap.size≤w6.heap.size:=hb6.size
   have SB:=Hd (show bF wD.heap.size none w6 (fun c=>Below B w c→ag.At c c.heap.size N l[k].body cs2) from fun c hc hbc=>hsafe c (hc.wide (by omega)) (cm (HBP.out) hbc (by have:=hc.1;omega)))
   refine hK.out _ _ hh6 (fun hHeld=>?_)
   clear hK K hb6 hsafe hcp hh6
   have HQ:=Hd (show Below wD.heap.size wD w6 from jz BP.out HB6.out (by omega))
   obtain ⟨pb,pd,rfl,hps⟩:=um (N:=N) (l:=l[k].params) HOP.out HNP.out.symm (Nat.le_refl _) HPN.out
   have SP:=Hd (show bF wD.heap.size none w6 (fun c=>aF c c.heap.size N l[k].params pb) from (hps.next (gx HB6.out (Nat.le_refl _)) (fun q _ h=>by cases h)).wide (Nat.le_refl _))
   have SQ:=Hd (show bF wD.heap.size none w6 (fun c=>Below B w c→ag.At c c.heap.size N l[k].body cs2) from SB.out)
   clear hps
   have hfn1:=xP nm pb np pd cs2 hlen2
   have hfn2:=xO nm pb np pd cs2 hlen2
   have HO5:=Hd (fm HO.out (ae DB.out HQ.out))
   have hsQ:wD.heap.size≤w6.heap.size:=HQ.out.size
   refine rd1 9 rfl (fun K hK=>?_)
   go_simp
   refine hK.out _ _ hHeld (fun hHeldx=>?_)
   clear hK K hHeldx
   refine rd1 10 rfl (fun K hK=>?_)
   go_simp
   have hhQ:aj (w6.alloc (.cells (.string nm::.slice pb np pd::cs2).toArray 72)) w4.heap.size 0 fs:=hHeld.below (af _ _) (by omega)
   refine hK.out _ _ hhQ (fun hHeld=>?_)
   clear hK K hhQ
   refine rd1 11 rfl (fun K hK=>?_)
   refine step_append_lies _ rfl (.tmp 12) (.tmp 22) 32 rfl w.heap.size 72 i0 (.agg z0) 19 280 Tryz.underlying32 HI.out HZ0.out HZ1.out HZ2.out HZS.out (by decide) s k xs rfl (HO5.out.alloc _) ⟨w6.heap.size,0,none⟩ 1 1 (.string nm::.slice pb np pd::cs2) rfl (by simp [hlen2]) ?_ ?_ (by decide) (by unfold maxLen;omega) (by omega) (by rw [World.size_alloc];omega) _ rfl ?_
   ·intro j u hj
    rw [bP,World.cell?_alloc_new]
    simpa using hj
   ·intro u hu
    rcases List.mem_cons.1 hu with rfl | hu
    ·rfl
    rcases List.mem_cons.1 hu with rfl | hu
    ·rfl
    ·exact HON.out u hu
   intro g cap w7 hown7 hgrow7 hlie7 hlt7
   have hf:=ef (L:=w.heap.size) hs4 (fun q hq=>HO.out.lt q hq) (wr:=w4) (o:=.cells fs.toArray 72) (w2:=w6) (by have hq:=HQ.out;rw [HWD.out] at hq;exact iR hq) hgrow7 hlie7
   have HO7:=Hd hown7
   have HSF:=Hd hf
   have hh7:aj w7 w4.heap.size 0 fs:=fun j hj=>by
    refine (hgrow7.cell_far ⟨w4.heap.size,0+j,none⟩ (by rw [World.size_alloc];show w4.heap.size<_;omega) ?_).trans (hHeld j hj)
    intro e
    have:=(HO.out.lt w4.heap.size e.symm).2
    omega
   clear hown7 hgrow7 hlie7 hf
   refine hK.out _ _ hh7 (fun hHeldx=>?_)
   clear hK K hHeldx
   simp only [Act.put]
   refine rd1 12 rfl (fun K hK=>?_)
   go_simp
   refine hK.out _ _ hh7 (fun hHeldx=>?_)
   clear hK K hHeldx
   refine wpAnyH_done (by kernel_rfl) ?_ _
   go_wp2_with fail
   go_roundw
   case rel =>
    refine ⟨k+1,xs++(.string nm::.slice pb np pd::cs2),by omega,by go_num,HO7,Hd (fun j hj hjk=>?_),Hd (H4.out.trans HSF.out.2.2)⟩
    rw [jw HO.out.1 (by simp [hlen2]) hjk]
    split
    ·exact (HCH.out j hj ‹_›).next HSF.out.1.1 HSF.out.1.2
    ·obtain rfl:j=k:=by omega
     have hk1:=HSF.out.2.1.1
     have hk2:=HSF.out.2.1.2
     rw [hsDD] at hk1 hk2
     intro c hc hbc
     rw [HNM.out,HNP.out]
     exact al.At.mk' HNN.out (by rw [← HNP.out];exact HPN.out.1) (((SP.out.next hk1 hk2).wide (L:=w.heap.size) (by omega)) c hc) (((SQ.out.next hk1 hk2).wide (L:=w.heap.size) (by omega)) c hc hbc)
   case measure=>simp [intOf];omega
  ·obtain rfl:k=l.length:=by omega
   obtain ⟨ad,cp,rfl,hes⟩:=rE (N:=N) (L:=w.heap.size) (l:=l) HO.out rfl (Nat.le_refl _) (fun i hi=>HCH.out i hi hi)
   go_wp2_with fail
   go_ret
   exact ⟨ad,cp,rfl,hes,H4.out⟩
theorem cZ:∀ (m:Nat) (x:ag),dpE m x→r9 x:=by
 intro m
 induction m with
 | zero =>
   intro x h
   exact kQ x (fun _ hk=>by rw [h.1] at hk;simp at hk) (fw _ fun _ hk=>by rw [h.2] at hk;simp at hk)
 | succ m ih =>
   intro x h
   exact kQ x (fun _ hk=>ih _ (h.1 _ (List.getElem_mem hk))) (fw _ fun _ hk=>ih _ (h.2 _ (List.getElem_mem hk)))
theorem i8 {m:Nat} {l:List al} (h:∀ f∈l,dpE m f.body):tQ l:=fw l fun _ hk=>cZ m _ (h _ (List.getElem_mem hk))
end Go.Proofs.YtiefeajappjnbaaGreatDoor
