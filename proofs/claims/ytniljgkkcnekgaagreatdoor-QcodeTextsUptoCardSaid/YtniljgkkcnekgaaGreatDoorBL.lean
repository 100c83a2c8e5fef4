/- A strings.Builder of the call's own: what its methods write, and what stays. -/
import Derived.Test.YtniljgkkcnekgaaGreatDoorProg
import Derived.Test.YtniljgkkcnekgaaGreatDoorGA
import Derived.Test.YtniljgkkcnekgaaGreatDoorGB
import Derived.Test.YtniljgkkcnekgaaGreatDoorGD
import Derived.Test.YtniljgkkcnekgaaGreatDoorGC
import Derived.Lib.Builder
import Derived.Lib.AppendStr
import Derived.Maps.AppendAt
import Derived.Lib.ConvBytes
import Derived.Laws.IdiomCopy
import Derived.Lib.Join
namespace Go.Proofs.YtniljgkkcnekgaaGreatDoor
open Go.RowKit
structure BldS (L b:Nat) (w:World) (s:Value) (bs:List Value):Prop where
 row:RowT 96 w b [.pointer none,s]∨RowT 96 w b [.pointer (some ⟨b,0,none⟩),s]
 own:w.ownsRow L 5 1 s bs.length bs
 lt:b<L
 le:L≤w.heap.size
structure BldF (b:Nat) (w:World) (s:Value) (w':World) (s':Value):Prop where
 os:w'.os=w.os
 tape:w'.tape=w.tape
 output:w'.output=w.output
 size:w.heap.size≤w'.heap.size
 block:∀ q,q<w.heap.size→q≠b→s.ownBlock≠some q→w'.heap[q]?=w.heap[q]?
 own:∀ q,s'.ownBlock=some q→s.ownBlock=some q∨w.heap.size≤q
theorem BldF.refl (b:Nat) (w:World) (s:Value):BldF b w s w s:=⟨rfl,rfl,rfl,Nat.le_refl _,fun _ _ _ _=>rfl,fun _ h=>.inl h⟩
theorem BldF.trans {b:Nat} {w1 w2 w3:World} {s1 s2 s3:Value} (h:BldF b w1 s1 w2 s2) (k:BldF b w2 s2 w3 s3):BldF b w1 s1 w3 s3 :=
 ⟨k.os.trans h.os,k.tape.trans h.tape,k.output.trans h.output,Nat.le_trans h.size k.size,fun q h1 h2 h3=>(k.block q (Nat.lt_of_lt_of_le h1 h.size) h2 (fun e=>by
  rcases h.own q e with h4 | h4
  ·exact h3 h4
  ·omega)).trans (h.block q h1 h2 h3),fun q hq=>by
  rcases k.own q hq with h4 | h4
  ·exact h.own q h4
  ·exact .inr (Nat.le_trans h.size h4)⟩
theorem BldF.below {L b B:Nat} {w w':World} {s s':Value} {bs:List Value} (h:BldF b w s w' s') (hs:BldS L b w s bs) (hB:B≤b):Below B w w' :=
 ⟨h.os,h.tape,h.output,h.size,fun q hq=>by
  have:=hs.lt
  have:=hs.le
  exact h.block q (by omega) (by omega) (fun e=>by have:=(hs.own.lt q e).1;omega)⟩
theorem BldF.row {b g:Nat} {w w':World} {s s':Value} {t:TypeId} {cs:List Value} (h:BldF b w s w' s') (hr:RowT t w g cs) (hg:g≠b) (ho:s.ownBlock≠some g):RowT t w' g cs:=(h.block g hr.lt hg ho).trans hr
def BldR (L b:Nat) (w:World) (s:Value) (bs:List Value) (r:Value) (e:Ending) (w':World):Prop:=e=.returned r∧∃ s',BldS L b w' s' bs∧BldF b w s w' s'
theorem sizeBLD:(Tryz.prog.info? 96).map (·.size)=some 2:=by kernel_rfl
theorem shape_of_row {t:TypeId} {w:World} {b:Nat} {cs:List Value} (h:RowT t w b cs):w.shape? b=some (t,cs.length):=by
 unfold RowT at h
 simp [World.shape?,h]
theorem BldS.boxes {L b:Nat} {w:World} {s:Value} {bs:List Value} (h:BldS L b w s bs) (o:Obj):BldS L b (w.alloc o) s bs:=⟨h.row.imp (·.alloc o) (·.alloc o),h.own.alloc o,h.lt,by rw [World.size_alloc];have:=h.le;omega⟩
theorem BldF.box {b:Nat} {w:World} {s:Value} (o:Obj):BldF b w s (w.alloc o) s:=⟨rfl,rfl,rfl,by rw [World.size_alloc];omega,fun q h1 _ _=>heap_alloc_old _ _ h1,fun _ h=>.inl h⟩
theorem own_keep_b {L b:Nat} {w:World} {s:Value} {bs:List Value} (h:w.ownsRow L 5 1 s bs.length bs) (hb:b<L) (j:Nat) (v:Value):(w.setCell ⟨b,j,none⟩ v).ownsRow L 5 1 s bs.length bs:=by
 refine ⟨h.1,?_⟩
 rcases h.2 with hn | ⟨g,cap,cur,rfl,h1,h2,rest⟩
 ·exact .inl hn
 ·exact .inr ⟨g,cap,cur,rfl,h1,(heap_setCell_other _ _ _ _ (by simp;omega)).trans h2,rest⟩
set_option maxRecDepth 100000 in
set_option maxHeartbeats 1600000 in
theorem bcheck (L b:Nat) (w:World) (s:Value) (bs:List Value) (h:BldS L b w s bs) :
 Calls Tryz.prog 112 #[.pointer (some ⟨b,0,none⟩)] w (fun e w'=>e=.returned (.tuple #[])∧RowT 96 w' b [.pointer (some ⟨b,0,none⟩),s]∧w'.ownsRow L 5 1 s bs.length bs∧BldF b w s w' s):=by
 obtain ⟨j,hj,hjs⟩:=Option.map_eq_some_iff.1 sizeBLD
 have HO:=Hd h.own
 have hlt:=h.lt
 rcases h.row with hr | hr
 ·have c0:=hr.cell (j:=0) (v:=.pointer none) rfl
  have f0:=hr.frozen 0
  have hsh:=shape_of_row hr
  have HR:=Hd hr
  have HJ:=Hd hj
  have hj0:j.size≠0:=by rw [hjs];decide
  have HJ0:=Hd hj0
  have HSH:=Hd hsh
  clear h hr hj hjs hsh hj0
  go_enter Tryz.func112,Tryz.ntmps112
  go_wp2_with fail
  rw [Lib.run_to_unsafe w ⟨b,0,none⟩ Tryz.underlying94 Tryz.underlying147 HJ.out HJ0.out HSH.out (Nat.zero_lt_succ 1)]
  simp only [Result.andThen]
  rw [Oper.upon_value]
  go_wp2_with fail
  rw [run_callFunc_extern Tryz.func130 (by kernel_rfl) (by kernel_rfl) (by kernel_rfl) (e:=Extern.AbiNoEscape.same) (by kernel_rfl)]
  rw [Lib.run_noEscape]
  simp only [Result.andThen]
  rw [Oper.upon_value]
  go_wp2_with fail
  rw [Lib.run_from_unsafe w ⟨b,0,none⟩ Tryz.underlying147 Tryz.underlying94 HJ.out HSH.out (by kernel_rfl)]
  simp only [Result.andThen]
  rw [Oper.upon_value]
  go_wp2_with fail
  go_end0
  exact ⟨rfl,HR.out.set 0 _,own_keep_b HO.out hlt _ _,⟨rfl,rfl,rfl,by simp,fun q _ h2 _=>heap_setCell_other _ _ _ _ (by simpa using h2),fun _ h=>.inl h⟩⟩
 ·have c0:=hr.cell (j:=0) (v:=.pointer (some ⟨b,0,none⟩)) rfl
  have HR:=Hd hr
  have HJ:=Hd hj
  clear h hr hj hjs
  go_enter Tryz.func112,Tryz.ntmps112
  go_wp2_with fail
  rw [Lib.run_neq_ptr_same w _ Tryz.underlying94 HJ.out]
  go_wp2_with fail
  go_end0
  exact ⟨rfl,HR.out,HO.out,BldF.refl _ _ _⟩
theorem bld_put {L b n:Nat} {w w1 w2:World} {s v':Value} {bs bs':List Value} (hlt:b<L) (hle:L≤w.heap.size) (hr:RowT 96 w1 b [.pointer (some ⟨b,0,none⟩),s]) (ho:w1.ownsRow L 5 1 s bs.length bs) (hf:BldF b w s w1 s)
 (hown:w2.ownsRow L 5 1 v' n bs') (hn:n=bs'.length) (hg:w1.grownBy w2 s.ownBlock) (hat:∀ q,v'.ownBlock=some q→s.ownBlock=some q∨w1.heap.size≤q) :
 BldS L b (w2.setCell ⟨b,1,none⟩ v') v' bs'∧BldF b w s (w2.setCell ⟨b,1,none⟩ v') v':=by
 have hb1:b<w1.heap.size:=hr.lt
 have hr2:RowT 96 w2 b [.pointer (some ⟨b,0,none⟩),s]:=(hg.block b hb1 (fun e=>by have:=(ho.lt b e.symm).1;omega)).trans hr
 subst hn
 refine ⟨⟨.inr (hr2.set 1 v'),own_keep_b hown hlt 1 v',hlt,by have:=hg.size;have:=hf.size;simp;omega⟩,?_⟩
 refine hf.trans ⟨hg.os,hg.tape,hg.output,by have:=hg.size;simp;omega,fun q h1 h2 h3=>?_,hat⟩
 rw [heap_setCell_other _ _ _ _ (by simpa using h2)]
 exact hg.block q h1 (fun e=>h3 e.symm)
theorem append_str_at (L:Nat) (i:TypeInfo) (ty:TypeId) (hi:Tryz.prog.info? 5=some i) (hz:i.zero=some (.int .u8 0)) (hs1:i.size=1) (hb1:i.bytes=1) (w:World) (v:Value) (n:Nat) (xs:List Value) (ho:w.ownsRow L 5 1 v n xs) (x:ByteArray) (hx:n+x.size≤140737488355328) (hL:L≤w.heap.size) :
 ∃ v' w',(Builtin.append_ #[35,9] ty #[v,.string x]).run Tryz.prog w=.ok v' w'∧w'.ownsRow L 5 1 v' (n+x.size) (xs++Lib.strCells x)∧w.grownBy w' v.ownBlock∧∀ q,v'.ownBlock=some q→v.ownBlock=some q∨w.heap.size≤q:=by
 have h63:n+x.size≤maxLen:=by unfold maxLen;omega
 have hxl:xs.length=n:=by simpa using ho.1
 have hlen:(xs++Lib.strCells x).length=(n+x.size) * 1:=by rw [List.length_append,hxl,Lib.strCells_length,Nat.mul_one]
 have new:∀ old,old<n+x.size→∀ row,∃ cells:Array Value,cells=xs.toArray++(Lib.strCells x).toArray++Builtin.zeroCells (Value.int .u8 0).cells (grownCap w (n+x.size) old 5-(n+x.size)) ∧
  (w.drew.alloc (.cells cells 5)).ownsRow L 5 1 (.slice (some ⟨w.heap.size,0,none⟩) (n+x.size) (grownCap w (n+x.size) old 5)) (n+x.size) (xs++Lib.strCells x)∧w.grownBy (w.drew.alloc (.cells cells 5)) row:=fun old hold row=>by
  have g1:=grownCap_ge w (n+x.size) old 5
  have g2:=grownCap_le_maxLen w (n+x.size) old 5 h63
  refine ⟨_,rfl,⟨hlen,.inr ⟨w.heap.size,_,_,rfl,hL,heap_alloc_new w.drew _,g1,g2,?_,?_⟩⟩,rfl,rfl,rfl,by simp,fun k hk _=>heap_alloc_old w.drew _ hk⟩
  ·have hc:(Value.int IntKind.u8 0).cells.size=1:=rfl
   simp only [Array.size_append,List.size_toArray,size_zeroCells,hc,hxl,Lib.strCells_length]
   omega
  ·simp only [Array.toList_append,List.append_assoc]
   rw [← List.append_assoc,← hlen]
   exact List.take_left
 rcases ho.2 with ⟨rfl,rfl⟩ | ⟨g,cap,cur,rfl,hg1,hg2,hg3,hg4,hg5,hg6⟩
 ·obtain rfl:xs=[]:=List.eq_nil_of_length_eq_zero hxl
  by_cases hm:x.size=0
  ·have hn:Lib.strCells x=[]:=List.eq_nil_of_length_eq_zero (by rw [Lib.strCells_length];exact hm)
   refine ⟨.slice none 0 0,w,?_,by rw [hm,hn];exact World.ownsRow_nil w L 5 1,⟨rfl,rfl,rfl,Nat.le_refl _,fun _ _ _=>rfl⟩,fun q h=>.inl h⟩
   have hf:=Lib.run_firstCells_string (P:=Tryz.prog) w 1 x
   rw [hm] at hf
   simp [Builtin.append_,run_underlying Tryz.underlying35,run_underlying Tryz.underlying9,sizeOf,typeInfo,hi,hs1,Builtin.lenOf,hm,hf]
  ·have hr:=run_append_nil_string (P:=Tryz.prog) w 35 9 ty 5 i (.int .u8 0) Tryz.underlying35 Tryz.underlying9 hi hz x (by omega) (by omega) (by rw [hb1];omega)
   obtain ⟨cells,hc,h1,h2⟩:=new 0 (by omega) (Value.ownBlock (.slice none 0 0))
   simp only [Nat.zero_add,List.nil_append,Array.empty_append] at hc h1 h2 ⊢
   have e1:(x.data.map fun b=>Value.int .u8 b.toNat)=(Lib.strCells x).toArray:=by
    apply Array.ext'
    simp [Lib.strCells]
   rw [e1,← hc] at hr
   exact ⟨_,_,hr,h1,h2,fun q h=>.inr (by cases h;exact Nat.le_refl _)⟩
 ·by_cases hroom:n+x.size≤cap
  ·have hc1:cur.size=cap:=by simpa using hg5
   have hr:=Lib.run_append_room_string (P:=Tryz.prog) w 35 9 ty 5 i Tryz.underlying35 Tryz.underlying9 hi hs1 g n cap cur hg2 x hroom (by omega)
   refine ⟨_,_,hr,⟨hlen,.inr ⟨g,cap,_,rfl,hg1,setRow_heap w g cur _ 5 _ hg2,hroom,hg4,?_,?_⟩⟩,⟨rfl,rfl,rfl,by simp,fun k _ hk=>setRow_other w g k _ (fun e=>hk (by simp [Value.ownBlock,e]))⟩,fun q h=>.inl h⟩
   ·simp only [List.size_toArray,List.length_append,List.length_take,List.length_drop,Array.length_toList,Lib.strCells_length]
    omega
   ·have ht:cur.toList.take n=xs:=by simpa using hg6
    rw [ht,← hlen]
    exact List.take_left
  ·have holds:∀ j u,xs[j]?=some u→w.cell? ((⟨g,0,none⟩:Addr).add j)=some u:=ho.cells (g:=g) rfl
   have hr:=Lib.run_append_grow_string (P:=Tryz.prog) w 35 9 ty 5 i (.int .u8 0) Tryz.underlying35 Tryz.underlying9 hi hz ⟨g,0,none⟩ n cap xs (by rw [hs1];simpa using hxl) holds x (by omega) (by omega) (by rw [hb1];exact growslice_fits (by omega) (by omega))
   obtain ⟨cells,hc,h1,h2⟩:=new cap (by omega) (Value.ownBlock (.slice (some ⟨g,0,none⟩) n cap))
   rw [← hc] at hr
   exact ⟨_,_,hr,h1,h2,fun q h=>.inr (by cases h;exact Nat.le_refl _)⟩
theorem wpList_append_str {ops:Array Oper} {rest:List Oper} {o:Oper} {a:Act} {Q:Exit→Act→World→Prop} (hgd:o.guard=none) (sl y:Operand) (ho:o.op=.call { callee:=.builtin .append,args:=#[sl,y],argTypes:=#[35,9] }) (L:Nat) (i:TypeInfo) (hi:Tryz.prog.info? 5=some i) (hz:i.zero=some (.int .u8 0)) (hs1:i.size=1) (hb1:i.bytes=1)
 (w:World) (v:Value) (n:Nat) (xs:List Value) (hs:a.eval sl=v) (hown:w.ownsRow L 5 1 v n xs) (x:ByteArray) (hx:a.eval y=.string x) (hb:n+x.size≤140737488355328) (hL:L≤w.heap.size)
 (h:∀ v' w',w'.ownsRow L 5 1 v' (n+x.size) (xs++Lib.strCells x)→w.grownBy w' v.ownBlock→(∀ q,v'.ownBlock=some q→v.ownBlock=some q∨w.heap.size≤q)→wpList Tryz.prog ops Q rest (a.put o.dst v') w'):wpList Tryz.prog ops Q (o::rest) a w:=by
 refine wpList_plain hgd fun K hK=>?_
 obtain ⟨v',w',hr,h2,h3,h4⟩:=append_str_at L i o.type hi hz hs1 hb1 w v n xs hown x hb hL
 unfold Oper.wp execOp
 simp only [ho,resolve,invoke,builtin,Sem.run_bind,Sem.run_pure,Result.andThen_ok,List.map_toArray,List.map_cons,List.map_nil,hs,hx,hr]
 exact hK _ _ (h v' w' h2 h3 h4)
set_option maxRecDepth 100000 in
set_option maxHeartbeats 1600000 in
theorem wstring (L b:Nat) (w:World) (s:Value) (bs:List Value) (x:ByteArray) (h:BldS L b w s bs) (hx:bs.length+x.size≤140737488355328) :
 Calls Tryz.prog 86 #[.pointer (some ⟨b,0,none⟩),.string x] w (BldR L b w s (bs++Lib.strCells x) (.tuple #[.int .i64 x.size,.nilIface])):=by
 obtain ⟨i0,hi,hz0,hz1,hz2⟩:=info_parts infoU8
 have HI:=Hd hi
 have HZ0:=Hd hz0
 have HZ1:=Hd hz1
 have HZ2:=Hd hz2
 have HH:=Hd h
 have hlt:=h.lt
 have hle:=h.le
 clear hi hz0 hz1 hz2 h
 go_enter Tryz.func86,Tryz.ntmps86
 go_wp2_with (go_at_call 112;refine (bcheck L b w s bs HH.out).mono ?_)
 rintro e w1 ⟨rfl,hr,ho,hf⟩
 have c0:=hr.cell (j:=0) (v:=.pointer (some ⟨b,0,none⟩)) rfl
 have c1:=hr.cell (j:=1) (v:=s) rfl
 have HR:=Hd hr
 have HO:=Hd ho
 have HF:=Hd hf
 have hle1:L≤w1.heap.size:=Nat.le_trans hle hf.size
 clear hr ho hf
 go_wp2_with (at_builtin;refine wpList_append_str rfl (.tmp 12) (.tmp 13) rfl L i0 HI.out HZ0.out HZ1.out HZ2.out _ s _ _ rfl HO.out x rfl hx hle1 ?_)
 intro v' w2 hown' hgrow hat
 obtain ⟨ao,cp,rfl⟩:=own_slice hown'
 have HP:=Hd (bld_put (n:=bs.length+x.size) hlt hle HR.out HO.out HF.out hown' (by rw [List.length_append,Lib.strCells_length]) hgrow hat)
 have hr2:RowT 96 w2 b [.pointer (some ⟨b,0,none⟩),s]:=(hgrow.block b HR.out.lt (fun e=>by have:=(HO.out.lt b e.symm).1;omega)).trans HR.out
 have d0:=hr2.cell (j:=0) (v:=.pointer (some ⟨b,0,none⟩)) rfl
 have d1:=hr2.cell (j:=1) (v:=s) rfl
 have f1:=hr2.frozen 1
 clear hown' hgrow hat hr2 c0 c1
 go_wp2_with fail
 go_ret2
 exact ⟨rfl,_,HP.out⟩
set_option maxRecDepth 100000 in
set_option maxHeartbeats 1600000 in
theorem wbyte (L b:Nat) (w:World) (s:Value) (bs:List Value) (c:Int) (h:BldS L b w s bs) (hx:bs.length+1≤140737488355328) :
 Calls Tryz.prog 91 #[.pointer (some ⟨b,0,none⟩),.int .u8 c] w (BldR L b w s (bs++[.int .u8 c]) .nilIface):=by
 obtain ⟨i0,hi,hz0,hz1,hz2⟩:=info_parts infoU8
 have HI:=Hd hi
 have HZ0:=Hd hz0
 have HZ1:=Hd hz1
 have HZ2:=Hd hz2
 have HH:=Hd h
 have hlt:=h.lt
 have hle:=h.le
 clear hi hz0 hz1 hz2 h
 go_enter Tryz.func91,Tryz.ntmps91
 go_wp2_with (go_at_call 112;refine (bcheck L b w s bs HH.out).mono ?_)
 rintro e w1 ⟨rfl,hr,ho,hf⟩
 have c0:=hr.cell (j:=0) (v:=.pointer (some ⟨b,0,none⟩)) rfl
 have c1:=hr.cell (j:=1) (v:=s) rfl
 have HR:=Hd hr
 have HO:=Hd ho
 have HF:=Hd hf
 have hle1:L≤w1.heap.size:=Nat.le_trans hle hf.size
 clear hr ho hf
 go_wp2_with (at_builtin;refine wpList_append_own_at _ rfl _ _ 35 rfl L 5 i0 (.int .u8 0) 1 1 Tryz.underlying35 HI.out HZ0.out HZ1.out HZ2.out rfl (by decide) s _ _ rfl (HO.out.alloc _) ⟨w1.heap.size,0,none⟩ 1 1 [.int .u8 c] rfl rfl ?c1 ?c2 ?c3 ?c4 ?c5 ?_)
 case c1 =>
  intro j u hj
  match j,hj with
  | 0,hj=>simp at hj;subst hj;simp [Addr.add]
 case c2=>intro u hu;simp at hu;subst hu;rfl
 case c3=>unfold maxLen;omega
 case c4=>omega
 case c5=>rw [World.size_alloc];omega
 intro v' w2 hown' hgrow hnil hat
 obtain ⟨ao,cp,rfl⟩:=own_slice hown'
 have hz:(w1.alloc (.cells #[.int .u8 c] 5)).heap.size=w1.heap.size+1:=World.size_alloc _ _
 have hr1:=HR.out.alloc (.cells #[.int .u8 c] 5)
 have HP:=Hd (bld_put (n:=bs.length+1) hlt hle hr1 (HO.out.alloc _) (HF.out.trans (BldF.box _)) hown' (by rw [List.length_append];rfl) hgrow (fun q hq=>by
  rcases hat with e | e
  ·exact .inl (e ▸ hq)
  ·rw [e] at hq
   cases hq
   exact .inr (by omega)))
 have hr2:RowT 96 w2 b [.pointer (some ⟨b,0,none⟩),s]:=(hgrow.block b hr1.lt (fun e=>by have:=(HO.out.lt b e.symm).1;omega)).trans hr1
 have d0:=hr2.cell (j:=0) (v:=.pointer (some ⟨b,0,none⟩)) rfl
 have d1:=hr2.cell (j:=1) (v:=s) rfl
 have f1:=hr2.frozen 1
 clear hown' hgrow hnil hat hr2 c0 c1 hr1 hz
 go_wp2_with fail
 go_ret
 exact ⟨rfl,_,HP.out⟩
end Go.Proofs.YtniljgkkcnekgaaGreatDoor

/- The program's quotation into a builder: short, quote. -/
namespace Go.Proofs.YtniljgkkcnekgaaGreatDoor
open Go.RowKit
def shB (c:Int):Int:=if c=34 then 34 else if c=92 then 92 else if c=8 then 98 else if c=12 then 102 else if c=10 then 110 else if c=13 then 114 else if c=9 then 116 else 0
set_option maxRecDepth 100000 in
theorem short_p (c:Int) (w:World):Calls Tryz.prog 118 #[.int .u8 c] w (fun e w'=>e=.returned (.int .u8 (shB c))∧w'=w):=by
 by_cases hq:c=34∨c=92∨c=8∨c=12∨c=10∨c=13∨c=9
 ·rcases hq with rfl | rfl | rfl | rfl | rfl | rfl | rfl
  all_goals
   go_enter Tryz.func118,Tryz.ntmps118
   go_wp2_with fail
   go_ret
   exact ⟨rfl,rfl⟩
 ·have hne:c≠34∧c≠92∧c≠8∧c≠12∧c≠10∧c≠13∧c≠9:=by omega
  clear hq
  obtain ⟨n0,n1,n2,n3,n4,n5,n6⟩:=hne
  have HE:=Hd (show shB c=0 by unfold shB;rw [if_neg n0,if_neg n1,if_neg n2,if_neg n3,if_neg n4,if_neg n5,if_neg n6])
  have q0:(c==34)=false:=by simpa using n0
  have q1:(c==92)=false:=by simpa using n1
  have q2:(c==8)=false:=by simpa using n2
  have q3:(c==12)=false:=by simpa using n3
  have q4:(c==10)=false:=by simpa using n4
  have q5:(c==13)=false:=by simpa using n5
  have q6:(c==9)=false:=by simpa using n6
  clear n0 n1 n2 n3 n4 n5 n6
  go_enter Tryz.func118,Tryz.ntmps118
  go_wp2_with fail
  go_ret
  exact ⟨by rw [HE.out];rfl,rfl⟩
theorem short_0 (c:Int) (w:World) (h:shB c=0):Calls Tryz.prog 118 #[.int .u8 c] w (fun e w'=>e=.returned (.int .u8 0)∧w'=w):=by
 have:=short_p c w
 rw [h] at this
 exact this
def numL (l:List Int):List Value:=l.map (Value.int .u8)
theorem numL_app (a b:List Int):numL (a++b)=numL a++numL b:=by unfold numL;rw [List.map_append]
theorem numL_len (a:List Int):(numL a).length=a.length:=by unfold numL;rw [List.length_map]
def quoI (s:ByteArray):List Int:=34::(escL (nums s)++[34])
def QuoI (L b:Nat) (w:World) (sl:Value) (bs:List Value) (s:ByteArray) (k:Nat) (wr:World):Prop:=∃ sr,BldS L b wr sr (bs++numL (34::escL ((nums s).take k)))∧BldF b w sl wr sr
set_option maxRecDepth 100000 in
set_option maxHeartbeats 12800000 in
theorem cquote_w (L b:Nat) (w:World) (sl:Value) (bs:List Value) (s:ByteArray) (h:BldS L b w sl bs) (hs:s.size≤65536) (hb:bs.length≤140737487000000) :
 Calls Tryz.prog 89 #[.pointer (some ⟨b,0,none⟩),.string s] w (BldR L b w sl (bs++numL (quoI s)) (.tuple #[])):=by
 have HH:=Hd h
 clear h
 go_enter Tryz.func89,Tryz.ntmps89
 go_wp2_with fail
 refine (wbyte L b w sl bs 34 HH.out (by omega)).mono ?_
 rintro e w0 ⟨rfl,s0,hs0,hf0⟩
 have HQ:=Hd (show QuoI L b w sl bs s 0 w0 from ⟨s0,hs0,hf0⟩)
 clear hs0 hf0
 go_wp2_with fail
 go_simp
 go_loopw [4] (fun t wr=>∃ k:Nat,t=.int .i64 k∧k≤s.size∧Hid (QuoI L b w sl bs s k wr)) (fun t _=>s.size-(intOf t).toNat)
 case atStart=>exact ⟨0,rfl,by omega,HQ⟩
 case round =>
  clear HQ
  obtain ⟨w1,rfl⟩:∃ w1,w1=wr:=⟨wr,rfl⟩
  obtain ⟨k,rfl,hk,HQ⟩:=hrel
  obtain ⟨s1,hs1,hf1⟩:=HQ.out
  have H1:=Hd hs1
  have F1:=Hd hf1
  have hl:(bs++numL (34::escL ((nums s).take k))).length≤bs.length+393217:=by
   rw [List.length_append,numL_len]
   have:=qlen (i:=k) hs
   omega
  have HLn:=Hd hl
  clear hs1 hf1 HQ hl
  by_cases hlt:k<s.size
  case neg =>
   have hnl:(nums s).take k=nums s:=List.take_of_length_le (by rw [nums_length];omega)
   have HN:=Hd (show bs++numL (34::escL ((nums s).take k))++[Value.int .u8 34]=bs++numL (quoI s) by rw [hnl,List.append_assoc];unfold quoI numL;simp)
   clear hnl
   go_wp2_with fail
   refine (wbyte L b w1 s1 _ 34 H1.out (by have:=HLn.out;omega)).mono ?_
   rintro e w2 ⟨rfl,s2,hs2,hf2⟩
   have H2:=Hd (HN.out ▸ hs2)
   have F2:=Hd (F1.out.trans hf2)
   clear hs2 hf2
   go_wp2_with fail
   go_end0
   exact ⟨rfl,s2,H2.out,F2.out⟩
  have hby:=byteI_eq hlt
  have hr:=byteI_range hlt
  have HET:=Hd (show ∀ l,escB (byteI s k)=l→(bs++numL (34::escL ((nums s).take k)))++numL l=bs++numL (34::escL ((nums s).take (k+1))) from fun l hl=>by
   rw [esc_take hlt,hl,List.append_assoc,← numL_app];rfl)
  obtain ⟨c,hc⟩:∃ c,c=byteI s k:=⟨_,rfl⟩
  rw [← hc] at hby hr HET
  have HC:=Hd hc
  clear hc
  by_cases hq:c=34∨c=92∨c=8∨c=12∨c=10∨c=13∨c=9
  ·have hsh:shB c≠0∧escB c=[92,shB c]:=by rcases hq with rfl | rfl | rfl | rfl | rfl | rfl | rfl<;>exact ⟨by decide,rfl⟩
   obtain ⟨d,hd⟩:∃ d,d=shB c:=⟨_,rfl⟩
   rw [← hd] at hsh
   have HD:=Hd hd
   have hd0:d≠0:=hsh.1
   have qd:(d != 0)=true:=by simpa using hd0
   have HE:=Hd (HET.out _ hsh.2)
   clear hq hd hsh hr
   go_wp2_with (first
    | (go_at_call 118;refine (short_p c _).mono ?_;rw [← HD.out];rintro e w' ⟨rfl,rfl⟩)
    | (go_at_call 91;refine (wbyte L b _ s1 _ 92 H1.out (by have:=HLn.out;omega)).mono ?_))
   rintro e w2 ⟨rfl,s2,hs2,hf2⟩
   have H2:=Hd hs2
   have F2:=Hd (F1.out.trans hf2)
   clear hs2 hf2
   go_wp2_with fail
   refine (wbyte L b w2 s2 _ d H2.out (by rw [List.length_append];have:=HLn.out;simp only [List.length_cons,List.length_nil];omega)).mono ?_
   rintro e w3 ⟨rfl,s3,hs3,hf3⟩
   have HQ3:=Hd (show QuoI L b w sl bs s (k+1) w3 from ⟨s3,by rw [← HE.out];simpa [numL] using hs3,F2.out.trans hf3⟩)
   clear hs3 hf3
   go_wp2_with fail
   go_roundw
   case rel=>exact ⟨k+1,by go_num,by omega,HQ3⟩
   case measure=>simp [intOf];omega
  ·have hne:c≠34∧c≠92∧c≠8∧c≠12∧c≠10∧c≠13∧c≠9:=by omega
   obtain ⟨n0,n1,n2,n3,n4,n5,n6⟩:=hne
   have HSH:=Hd (show shB c=0 by unfold shB;rw [if_neg n0,if_neg n1,if_neg n2,if_neg n3,if_neg n4,if_neg n5,if_neg n6])
   by_cases h32:c<32
   ·have HE:=Hd (HET.out [92,117,48,48,hexC (c / 16),hexC (c % 16)] (by unfold escB;rw [if_neg n0,if_neg n1,if_neg n2,if_neg n3,if_neg n4,if_neg n5,if_neg n6,if_pos h32]))
    obtain ⟨m,rfl⟩:=Int.eq_ofNat_of_zero_le hr.1
    have hm:m<32:=by omega
    have HNE:=Hd (⟨n2,n3,n4,n5,n6⟩:(m:Int)≠8∧(m:Int)≠12∧(m:Int)≠10∧(m:Int)≠13∧(m:Int)≠9)
    clear n0 n1 n2 n3 n4 n5 n6 hq HET hr h32
    rcases (show m=0∨m=1∨m=2∨m=3∨m=4∨m=5∨m=6∨m=7∨m=8∨m=9∨m=10∨m=11∨m=12∨m=13∨m=14∨m=15∨m=16∨m=17∨m=18∨m=19∨m=20∨m=21∨m=22∨m=23∨m=24∨m=25∨m=26∨m=27∨m=28∨m=29∨m=30∨m=31 by omega) with rfl | rfl | rfl | rfl | rfl | rfl | rfl | rfl | rfl | rfl | rfl | rfl | rfl | rfl | rfl | rfl | rfl | rfl | rfl | rfl | rfl | rfl | rfl | rfl | rfl | rfl | rfl | rfl | rfl | rfl | rfl | rfl
    all_goals first
     | exact absurd rfl HNE.out.1
     | exact absurd rfl HNE.out.2.1
     | exact absurd rfl HNE.out.2.2.1
     | exact absurd rfl HNE.out.2.2.2.1
     | exact absurd rfl HNE.out.2.2.2.2
     | (clear HNE hm
        go_wp2_with (first
         | (go_at_call 118;refine (short_0 _ _ (by decide)).mono ?_;rintro e w' ⟨rfl,rfl⟩)
         | (go_at_call 86;refine (wstring L b _ s1 _ ⟨#[92,117,48,48]⟩ H1.out (by show _+4≤_;have:=HLn.out;omega)).mono ?_))
        rintro e w2 ⟨rfl,s2,hs2,hf2⟩
        have H2:=Hd hs2
        have F2:=Hd (F1.out.trans hf2)
        clear hs2 hf2
        go_wp2_with fail
        refine (wbyte L b w2 s2 _ _ H2.out (by rw [List.length_append,Lib.strCells_length];show _+4+1≤_;have:=HLn.out;omega)).mono ?_
        rintro e w3 ⟨rfl,s3,hs3,hf3⟩
        have H3:=Hd hs3
        have F3:=Hd (F2.out.trans hf3)
        clear hs3 hf3
        go_wp2_with fail
        refine (wbyte L b w3 s3 _ _ H3.out (by rw [List.length_append,List.length_append,Lib.strCells_length];show _+4+1+1≤_;have:=HLn.out;omega)).mono ?_
        rintro e w4 ⟨rfl,s4,hs4,hf4⟩
        have HQ3:=Hd (show QuoI L b w sl bs s (k+1) w4 from ⟨s4,by rw [← HE.out];simp only [List.append_assoc] at hs4 ⊢;exact hs4,F3.out.trans hf4⟩)
        clear hs4 hf4
        go_wp2_with fail
        go_roundw
        case rel=>exact ⟨k+1,by go_num,by omega,HQ3⟩
        case measure=>simp [intOf];omega)
   ·have HE:=Hd (HET.out [c] (by unfold escB;rw [if_neg n0,if_neg n1,if_neg n2,if_neg n3,if_neg n4,if_neg n5,if_neg n6,if_neg h32]))
    clear n0 n1 n2 n3 n4 n5 n6 hq HET hr
    go_wp2_with (first
     | (go_at_call 118;refine (short_p c _).mono ?_;rw [HSH.out];rintro e w' ⟨rfl,rfl⟩)
     | (go_at_call 91;refine (wbyte L b _ s1 _ c H1.out (by have:=HLn.out;omega)).mono ?_))
    rintro e w3 ⟨rfl,s3,hs3,hf3⟩
    have HQ3:=Hd (show QuoI L b w sl bs s (k+1) w3 from ⟨s3,by rw [← HE.out];simpa [numL] using hs3,F1.out.trans hf3⟩)
    clear hs3 hf3
    go_wp2_with fail
    go_roundw
    case rel=>exact ⟨k+1,by go_num,by omega,HQ3⟩
    case measure=>simp [intOf];omega
end Go.Proofs.YtniljgkkcnekgaaGreatDoor

/- A row of bytes of the call's own, told by its cells alone (what []byte(s) makes is marked behind its end). -/
namespace Go.Proofs.YtniljgkkcnekgaaGreatDoor
open Go.RowKit
def OwnC (L:Nat) (w:World) (v:Value) (xs:List Int):Prop:=∃ g cap,v=.slice (some ⟨g,0,none⟩) xs.length cap∧L≤g∧g<w.heap.size∧xs.length≤cap∧cap≤maxLen ∧
 (∀ j,j<cap→(w.cell? ⟨g,j,none⟩).isSome=true)∧(∀ j,j<cap→w.frozen? ⟨g,j,none⟩=false)∧∀ j u,(xs.map (Value.int .u8))[j]?=some u→w.cell? ⟨g,j,none⟩=some u
theorem add_zero (g j:Nat):(⟨g,0,none⟩:Addr).add j=⟨g,j,none⟩:=by unfold Addr.add;split<;>simp_all
theorem OwnC.lt {L:Nat} {w:World} {v:Value} {xs:List Int} (h:OwnC L w v xs):∀ k,v.ownBlock=some k→L≤k∧k<w.heap.size:=by
 obtain ⟨g,cap,rfl,h1,h2,_⟩:=h
 intro k hk
 simp [Value.ownBlock] at hk
 subst hk
 exact ⟨h1,h2⟩
theorem OwnC.then {L:Nat} {w w':World} {v:Value} {xs:List Int} (h:OwnC L w v xs) (hb:Below w.heap.size w w'):OwnC L w' v xs:=by
 obtain ⟨g,cap,rfl,h1,h2,h3,h4,h5,h6,h7⟩:=h
 have e:=hb.block g h2
 exact ⟨g,cap,rfl,h1,Nat.lt_of_lt_of_le h2 hb.size,h3,h4,fun j hj=>by rw [World.cell?_of_block (a:=⟨g,j,none⟩) e];exact h5 j hj,fun j hj=>by rw [World.frozen?_of_block (a:=⟨g,j,none⟩) e];exact h6 j hj,fun j u hu=>by rw [World.cell?_of_block (a:=⟨g,j,none⟩) e];exact h7 j u hu⟩
theorem OwnC.conv {L:Nat} {w:World} {v:Value} {xs:List Int} (h:OwnC L w v xs):(convert 35 9 v).run Tryz.prog w=.ok (.string (strOfNums xs)) w:=by
 obtain ⟨g,cap,rfl,_,_,_,_,_,_,h7⟩:=h
 refine run_convert_bytes_arg w 35 5 Tryz.underlying35 Tryz.underlying5 g 0 xs.length cap xs rfl (fun i hi=>?_) 9 Tryz.underlying9
 have:=h7 i (.int .u8 xs[i]) (by rw [List.getElem?_map,List.getElem?_eq_getElem hi];rfl)
 rw [Nat.zero_add,this,List.getD_eq_getElem?_getD,List.getElem?_eq_getElem hi]
 rfl
theorem own_row {L cap:Nat} {w:World} {xs:List Int} {zs:List Value} (hL:L≤w.heap.size) (hc:cap≤maxLen) (hz:xs.length+zs.length=cap) :
 OwnC L (w.alloc (.cells ((xs.map (Value.int .u8))++zs).toArray 5)) (.slice (some ⟨w.heap.size,0,none⟩) xs.length cap) xs:=by
 have hb:(w.alloc (.cells ((xs.map (Value.int .u8))++zs).toArray 5)).heap[w.heap.size]?=some (.cells ((xs.map (Value.int .u8))++zs).toArray 5 (0,0)):=heap_alloc_new w _
 have hcell:∀ j,(w.alloc (.cells ((xs.map (Value.int .u8))++zs).toArray 5)).cell? ⟨w.heap.size,j,none⟩=((xs.map (Value.int .u8))++zs)[j]?:=fun j=>by
  unfold World.cell?
  rw [hb]
  simp only [Option.isSome_none,Bool.false_eq_true,if_false,List.getElem?_toArray]
 refine ⟨w.heap.size,cap,rfl,hL,by rw [World.size_alloc];omega,by omega,hc,fun j hj=>?_,fun j hj=>?_,fun j u hu=>?_⟩
 ·rw [hcell,List.getElem?_eq_getElem (by rw [List.length_append,List.length_map];omega)]
  rfl
 ·exact frozen_of_row _ _ _ _ _ hb
 ·have hlt:j<(xs.map (Value.int .u8)).length:=by
   apply Classical.byContradiction
   intro hn
   rw [List.getElem?_eq_none (by omega)] at hu
   cases hu
  rw [hcell,List.getElem?_append_left hlt]
  exact hu
theorem own_bytes {L:Nat} (w:World) (s:ByteArray) (hL:L≤w.heap.size) (hs:s.size≤4096) :
 OwnC L (Lib.bytesWorld w 5 s) (.slice (some ⟨w.heap.size,0,none⟩) s.size (grownCap w s.size 0 5)) (nums s):=by
 have hge:=grownCap_ge w s.size 0 5
 have hle:=grownCap_le_maxLen w s.size 0 5 (by unfold maxLen;omega)
 have hsz:(Lib.bytesCells w 5 s).size=grownCap w s.size 0 5:=by
  unfold Lib.bytesCells
  rw [Array.size_append,Array.size_map,Array.size_replicate]
  change s.size+_=_
  omega
 have hb:=Lib.bytesWorld_at_new w 5 s
 refine ⟨w.heap.size,grownCap w s.size 0 5,by rw [nums_length],hL,by rw [Lib.bytesWorld_size];omega,by rw [nums_length];exact hge,hle,fun j hj=>?_,fun j hj=>?_,fun j u hu=>?_⟩
 ·have:(Lib.bytesWorld w 5 s).cell? ⟨w.heap.size,j,none⟩=(Lib.bytesCells w 5 s)[j]?:=by simp [World.cell?,hb]
  rw [this,Array.getElem?_eq_getElem (by omega)]
  rfl
 ·simp only [World.frozen?,hb,Bool.and_eq_false_iff,decide_eq_false_iff_not]
  left
  omega
 ·have hlt:j<s.size:=by
   apply Classical.byContradiction
   intro hn
   rw [List.getElem?_eq_none (by rw [List.length_map,nums_length];omega)] at hu
   cases hu
  rw [Lib.bytesWorld_cell w 5 s j hlt,← hu]
  unfold nums
  rw [List.map_map,List.getElem?_map,List.getElem?_eq_getElem (show j<s.data.toList.length from hlt),List.getD_eq_getElem?_getD,List.getElem?_eq_getElem (show j<s.data.toList.length from hlt)]
  rfl
structure GrC (w:World) (v:Value) (w':World) (v':Value):Prop where
 by_:w.grownBy w' v.ownBlock
 at_:∀ q,v'.ownBlock=some q→v.ownBlock=some q∨w.heap.size≤q
theorem put_room {L:Nat} {w:World} {g cap:Nat} {xs ys:List Int} (h:OwnC L w (.slice (some ⟨g,0,none⟩) xs.length cap) xs) (hr:xs.length+ys.length≤cap) :
 OwnC L (w.setCells g xs.length (ys.map (Value.int .u8))) (.slice (some ⟨g,0,none⟩) (xs++ys).length cap) (xs++ys)∧GrC w (.slice (some ⟨g,0,none⟩) xs.length cap) (w.setCells g xs.length (ys.map (Value.int .u8))) (.slice (some ⟨g,0,none⟩) (xs++ys).length cap):=by
 obtain ⟨g',cap',e,h1,h2,h3,h4,h5,h6,h7⟩:=h
 simp only [Value.slice.injEq,Option.some.injEq,Addr.mk.injEq,and_true,true_and] at e
 obtain ⟨rfl,rfl⟩:=e
 have hsz:(w.setCells g xs.length (ys.map (Value.int .u8))).heap.size=w.heap.size:=by
  have:∀ (vs:List Value) (o:Nat) (u:World),(u.setCells g o vs).heap.size=u.heap.size:=by
   intro vs
   induction vs with
   | nil=>intro o u;rfl
   | cons x r ih=>intro o u;rw [World.setCells,ih];simp
  exact this _ _ _
 have hin:∀ j (hj:j<(ys.map (Value.int .u8)).length),(w.setCells g xs.length (ys.map (Value.int .u8))).cell? ⟨g,xs.length+j,none⟩=some (ys.map (Value.int .u8))[j] :=
  fun j hj=>World.cell?_setCells_in g _ _ _ (fun i hi=>h5 _ (by rw [List.length_map] at hi;omega)) j hj
 have hout:∀ j,j<xs.length∨xs.length+ys.length≤j→(w.setCells g xs.length (ys.map (Value.int .u8))).cell? ⟨g,j,none⟩=w.cell? ⟨g,j,none⟩ :=
  fun j hj=>World.cell?_setCells_out g _ _ _ _ (fun _ _=>by rw [List.length_map];exact hj)
 refine ⟨⟨g,cap,rfl,h1,by rw [hsz];exact h2,by rw [List.length_append];exact hr,h4,fun j hj=>?_,fun j hj=>?_,fun j u hu=>?_⟩,⟨?_,fun q hq=>.inl hq⟩⟩
 ·by_cases hm:j<xs.length∨xs.length+ys.length≤j
  ·rw [hout j hm];exact h5 j hj
  ·have:=hin (j-xs.length) (by rw [List.length_map];omega)
   rw [show xs.length+(j-xs.length)=j by omega] at this
   rw [this];rfl
 ·rw [World.frozen?_setCells];exact h6 j hj
 ·rw [List.map_append] at hu
  by_cases hm:j<xs.length
  ·rw [hout j (.inl hm)]
   rw [List.getElem?_append_left (by rw [List.length_map];exact hm)] at hu
   exact h7 j u hu
  ·rw [List.getElem?_append_right (by rw [List.length_map];omega),List.length_map] at hu
   have hlt:j-xs.length<(ys.map (Value.int .u8)).length:=by
    apply Classical.byContradiction
    intro hn
    rw [List.getElem?_eq_none (by omega)] at hu
    cases hu
   have:=hin (j-xs.length) hlt
   rw [show xs.length+(j-xs.length)=j by omega] at this
   rw [this,← hu,List.getElem?_eq_getElem hlt]
 ·have hother:∀ (vs:List Value) (o:Nat) (u:World) (k:Nat),k≠g→(u.setCells g o vs).heap[k]?=u.heap[k]?:=by
   intro vs
   induction vs with
   | nil=>intro o u k _;rfl
   | cons x r ih=>intro o u k hk;rw [World.setCells,ih _ _ _ hk];exact heap_setCell_other _ _ _ _ (by simpa using hk)
  have hos:∀ (vs:List Value) (o:Nat) (u:World),(u.setCells g o vs).os=u.os∧(u.setCells g o vs).tape=u.tape∧(u.setCells g o vs).output=u.output:=by
   intro vs
   induction vs with
   | nil=>intro o u;exact ⟨rfl,rfl,rfl⟩
   | cons x r ih =>
     intro o u
     rw [World.setCells]
     obtain ⟨a,b,c⟩:=ih (o+1) (u.setCell ⟨g,o,none⟩ x)
     exact ⟨a,b,c⟩
  obtain ⟨e1,e2,e3⟩:=hos (ys.map (Value.int .u8)) xs.length w
  exact ⟨e1,e2,e3,by rw [hsz];exact Nat.le_refl _,fun k _ hk=>hother _ _ _ _ (fun e=>hk (by rw [e];rfl))⟩
theorem put_grow {L cap:Nat} {w:World} {v:Value} {xs ys:List Int} (hL:L≤w.heap.size) (hx:xs.length+ys.length≤140737488355328) (ci:Array Value) (hci:ci=(xs.map (Value.int .u8)).toArray++(ys.map (Value.int .u8)).toArray++Builtin.zeroCells (Value.int .u8 0).cells (grownCap w (xs.length+ys.length) cap 5-(xs.length+ys.length))) :
 OwnC L (w.drew.alloc (.cells ci 5)) (.slice (some ⟨w.heap.size,0,none⟩) (xs.length+ys.length) (grownCap w (xs.length+ys.length) cap 5)) (xs++ys)∧GrC w v (w.drew.alloc (.cells ci 5)) (.slice (some ⟨w.heap.size,0,none⟩) (xs.length+ys.length) (grownCap w (xs.length+ys.length) cap 5)):=by
 have hge:=grownCap_ge w (xs.length+ys.length) cap 5
 have hle:=grownCap_le_maxLen w (xs.length+ys.length) cap 5 (by unfold maxLen;omega)
 have hzc:(Builtin.zeroCells (Value.int .u8 0).cells (grownCap w (xs.length+ys.length) cap 5-(xs.length+ys.length))).toList.length=grownCap w (xs.length+ys.length) cap 5-(xs.length+ys.length):=by
  have hc:(Value.int IntKind.u8 0).cells.size=1:=rfl
  rw [Array.length_toList,size_zeroCells,hc,Nat.mul_one]
 have hrow:=own_row (L:=L) (cap:=grownCap w (xs.length+ys.length) cap 5) (w:=w.drew) (xs:=xs++ys) (zs:=(Builtin.zeroCells (Value.int .u8 0).cells (grownCap w (xs.length+ys.length) cap 5-(xs.length+ys.length))).toList) hL hle (by rw [hzc,List.length_append];omega)
 have e:(((xs++ys).map (Value.int .u8))++(Builtin.zeroCells (Value.int .u8 0).cells (grownCap w (xs.length+ys.length) cap 5-(xs.length+ys.length))).toList).toArray=ci:=by
  rw [hci]
  apply Array.ext'
  simp
 rw [e,List.length_append] at hrow
 exact ⟨hrow,⟨rfl,rfl,rfl,by simp,fun k hk _=>heap_alloc_old w.drew _ hk⟩,fun q hq=>.inr (by cases hq;exact Nat.le_refl _)⟩
theorem strCells_numsC (x:ByteArray):Lib.strCells x=(nums x).map (Value.int .u8):=by
 unfold Lib.strCells nums
 rw [List.map_map]
 rfl
theorem run_strC (L:Nat) (i:TypeInfo) (ty:TypeId) (hi:Tryz.prog.info? 5=some i) (hz:i.zero=some (.int .u8 0)) (hs1:i.size=1) (hb1:i.bytes=1) (w:World) (v:Value) (xs:List Int) (ho:OwnC L w v xs) (x:ByteArray) (hx:xs.length+x.size≤140737488355328) (hL:L≤w.heap.size) :
 ∃ v' w',(Builtin.append_ #[35,9] ty #[v,.string x]).run Tryz.prog w=.ok v' w'∧OwnC L w' v' (xs++nums x)∧GrC w v w' v':=by
 have ho':=ho
 obtain ⟨g,cap,rfl,h1,h2,h3,h4,h5,h6,h7⟩:=ho
 have hxl:=nums_length x
 have hsc:=strCells_numsC x
 have hf:=Lib.run_firstCells_string (P:=Tryz.prog) w 1 x
 by_cases hroom:xs.length+x.size≤cap
 ·have hp:=put_room (ys:=nums x) ho' (by rw [hxl];exact hroom)
  have hst:=run_storeCells_cells (P:=Tryz.prog) g xs.length (Lib.strCells x) 0 w (fun j hj=>h5 _ (by rw [Lib.strCells_length] at hj;omega)) (fun j hj=>h6 _ (by rw [Lib.strCells_length] at hj;omega)) (Lib.strCells_oneCell x)
  rw [Nat.add_zero,hsc] at hst
  rw [hsc] at hf
  have e:(xs++nums x).length=xs.length+x.size:=by rw [List.length_append,hxl]
  rw [e] at hp
  refine ⟨_,_,?_,hp.1,hp.2⟩
  simp [Builtin.append_,run_underlying Tryz.underlying35,run_underlying Tryz.underlying9,sizeOf,typeInfo,hi,hs1,Builtin.lenOf,hroom,hf,Addr.add_lit,hst]
 ·have hr:=Lib.run_append_grow_string (P:=Tryz.prog) w 35 9 ty 5 i (.int .u8 0) Tryz.underlying35 Tryz.underlying9 hi hz ⟨g,0,none⟩ xs.length cap (xs.map (Value.int .u8)) (by rw [hs1,List.length_map,Nat.mul_one]) (fun j u hu=>by rw [add_zero];exact h7 j u hu) x (by omega) (by omega) (by rw [hb1];exact growslice_fits (by omega) (by omega))
  have hp:=put_grow (L:=L) (cap:=cap) (w:=w) (v:=.slice (some ⟨g,0,none⟩) xs.length cap) (xs:=xs) (ys:=nums x) hL (by rw [hxl];exact hx) _ rfl
  rw [hxl,← hsc] at hp
  exact ⟨_,_,hr,hp.1,hp.2⟩
theorem run_oneC (L:Nat) (i:TypeInfo) (ty:TypeId) (hi:Tryz.prog.info? 5=some i) (hz:i.zero=some (.int .u8 0)) (hs1:i.size=1) (hb1:i.bytes=1) (w:World) (v:Value) (xs:List Int) (ho:OwnC L w v xs) (c:Int) (a:Addr) (ha:w.cell? (a.add 0)=some (.int .u8 c)) (hx:xs.length+1≤140737488355328) (hL:L≤w.heap.size) :
 ∃ v' w',(Builtin.append_ #[35,35] ty #[v,.slice (some a) 1 1]).run Tryz.prog w=.ok v' w'∧OwnC L w' v' (xs++[c])∧GrC w v w' v':=by
 have ho':=ho
 obtain ⟨g,cap,rfl,h1,h2,h3,h4,h5,h6,h7⟩:=ho
 have hnews:∀ j u,([Value.int .u8 c]:List Value)[j]?=some u→w.cell? (a.add j)=some u:=by
  intro j u hu
  match j,hu with
  | 0,hu=>simp at hu;subst hu;exact ha
 have hf:=run_firstCells_some (P:=Tryz.prog) w 1 1 a 1 1 [.int .u8 c] rfl hnews
 by_cases hroom:xs.length+1≤cap
 ·have hp:=put_room (ys:=[c]) ho' hroom
  have hst:=run_storeCells_cells (P:=Tryz.prog) g xs.length [.int .u8 c] 0 w (fun j hj=>h5 _ (by simp at hj;omega)) (fun j hj=>h6 _ (by simp at hj;omega)) (fun u hu=>by simp at hu;subst hu;rfl)
  rw [Nat.add_zero] at hst
  have e:(xs++[c]).length=xs.length+1:=by rw [List.length_append];rfl
  rw [e] at hp
  refine ⟨_,_,?_,hp.1,hp.2⟩
  simp [Builtin.append_,run_underlying Tryz.underlying35,sizeOf,typeInfo,hi,hs1,Builtin.lenOf,hroom,hf,Addr.add_lit,hst]
 ·have hr:=run_append_grow (P:=Tryz.prog) w 35 ty 5 i (.int .u8 0) Tryz.underlying35 hi hz ⟨g,0,none⟩ xs.length cap (xs.map (Value.int .u8)) (by rw [hs1,List.length_map,Nat.mul_one]) (fun j u hu=>by rw [add_zero];exact h7 j u hu) a 1 1 [.int .u8 c] (by rw [hs1];rfl) hnews (by omega) (by omega) (by rw [hb1];exact growslice_fits (by omega) (by omega))
  have hp:=put_grow (L:=L) (cap:=cap) (w:=w) (v:=.slice (some ⟨g,0,none⟩) xs.length cap) (xs:=xs) (ys:=[c]) hL hx _ rfl
  exact ⟨_,_,hr,hp.1,hp.2⟩
theorem wpList_strC {ops:Array Oper} {rest:List Oper} {o:Oper} {a:Act} {Q:Exit→Act→World→Prop} (hgd:o.guard=none) (sl y:Operand) (ho:o.op=.call { callee:=.builtin .append,args:=#[sl,y],argTypes:=#[35,9] }) (L:Nat) (i:TypeInfo) (hi:Tryz.prog.info? 5=some i) (hz:i.zero=some (.int .u8 0)) (hs1:i.size=1) (hb1:i.bytes=1)
 (w:World) (v:Value) (xs:List Int) (hs:a.eval sl=v) (hown:OwnC L w v xs) (x:ByteArray) (hx:a.eval y=.string x) (hb:xs.length+x.size≤140737488355328) (hL:L≤w.heap.size)
 (h:∀ v' w',OwnC L w' v' (xs++nums x)→GrC w v w' v'→wpList Tryz.prog ops Q rest (a.put o.dst v') w'):wpList Tryz.prog ops Q (o::rest) a w:=by
 refine wpList_plain hgd fun K hK=>?_
 obtain ⟨v',w',hr,h2,h3⟩:=run_strC L i o.type hi hz hs1 hb1 w v xs hown x hb hL
 unfold Oper.wp execOp
 simp only [ho,resolve,invoke,builtin,Sem.run_bind,Sem.run_pure,Result.andThen_ok,List.map_toArray,List.map_cons,List.map_nil,hs,hx,hr]
 exact hK _ _ (h v' w' h2 h3)
theorem wp_strC {o:Oper} {a:Act} {K:Act→World→Prop} {Q:Exit→Act→World→Prop} (sl y:Operand) (ho:o.op=.call { callee:=.builtin .append,args:=#[sl,y],argTypes:=#[35,9] }) (L:Nat) (i:TypeInfo) (hi:Tryz.prog.info? 5=some i) (hz:i.zero=some (.int .u8 0)) (hs1:i.size=1) (hb1:i.bytes=1)
 (w:World) (v:Value) (xs:List Int) (hs:a.eval sl=v) (hown:OwnC L w v xs) (x:ByteArray) (hx:a.eval y=.string x) (hb:xs.length+x.size≤140737488355328) (hL:L≤w.heap.size)
 (h:∀ v' w',OwnC L w' v' (xs++nums x)→GrC w v w' v'→K (a.put o.dst v') w'):Oper.wp Tryz.prog o a w K Q:=by
 obtain ⟨v',w',hr,h2,h3⟩:=run_strC L i o.type hi hz hs1 hb1 w v xs hown x hb hL
 unfold Oper.wp execOp
 simp only [ho,resolve,invoke,builtin,Sem.run_bind,Sem.run_pure,Result.andThen_ok,List.map_toArray,List.map_cons,List.map_nil,hs,hx,hr]
 exact h v' w' h2 h3
theorem wpList_oneC {ops:Array Oper} {rest:List Oper} {o:Oper} {a:Act} {Q:Exit→Act→World→Prop} (hgd:o.guard=none) (sl y:Operand) (ho:o.op=.call { callee:=.builtin .append,args:=#[sl,y],argTypes:=#[35,35] }) (L:Nat) (i:TypeInfo) (hi:Tryz.prog.info? 5=some i) (hz:i.zero=some (.int .u8 0)) (hs1:i.size=1) (hb1:i.bytes=1)
 (w:World) (v:Value) (xs:List Int) (hs:a.eval sl=v) (hown:OwnC L w v xs) (c:Int) (ad:Addr) (hx:a.eval y=.slice (some ad) 1 1) (hc:w.cell? (ad.add 0)=some (.int .u8 c)) (hb:xs.length+1≤140737488355328) (hL:L≤w.heap.size)
 (h:∀ v' w',OwnC L w' v' (xs++[c])→GrC w v w' v'→wpList Tryz.prog ops Q rest (a.put o.dst v') w'):wpList Tryz.prog ops Q (o::rest) a w:=by
 refine wpList_plain hgd fun K hK=>?_
 obtain ⟨v',w',hr,h2,h3⟩:=run_oneC L i o.type hi hz hs1 hb1 w v xs hown c ad hc hb hL
 unfold Oper.wp execOp
 simp only [ho,resolve,invoke,builtin,Sem.run_bind,Sem.run_pure,Result.andThen_ok,List.map_toArray,List.map_cons,List.map_nil,hs,hx,hr]
 exact hK _ _ (h v' w' h2 h3)
end Go.Proofs.YtniljgkkcnekgaaGreatDoor
