/- value.Copy; Clone of a function's parameters; a result that is a struct in a cell beside a number. -/
import Derived.Test.YtiefeajappjnbaaGreatDoorGA
import Derived.Test.YtiefeajappjnbaaGreatDoorGR
import Derived.Test.YtiefeajappjnbaaGreatDoorGD
import Derived.Test.YtiefeajappjnbaaGreatDoorGT
import Derived.Test.YtiefeajappjnbaaGreatDoorGU
import Derived.Lib.SlicesS
namespace Go.Proofs.YtiefeajappjnbaaGreatDoor
open Go.RowKit
theorem ap {P:Program} {fn:Func} {p u:Tmp} {ty:TypeId} (h:fn.results=#[.cell p ty,.tmp u]) (tmps:Array Value) (w:World) (g:Nat) (t:TypeId) (cs:Array Value) (fr:Nat×Nat) (d:TypeDesc)
 (hp:tmps.getD p undef=.pointer (some ⟨g,0,none⟩)) (hg:w.heap[g]?=some (.cells cs t fr))
 (hu:P.underlying ty=some d) (hd:(match d with | .struct _ | .array _ _=>true | _=>false)=true) (hi:(P.info? ty).map (·.size)=some cs.size) :
 (results fn tmps).run P w=.ok (.tuple #[.agg cs,tmps.getD u undef]) w:=by
 have hp':tmps[p]?.getD undef=.pointer (some ⟨g,0,none⟩):=by simpa using hp
 simp [results,h,hp',asAddr,run_loadVar_row w g t ty cs fr d hg hu hd hi]
theorem pt {cs:List Value} (h:cs.length=13):(Tryz.prog.info? 30).map (·.size)=some cs.toArray.size:=by rw [List.size_toArray,h];exact bM
theorem wd {cs:List Value} (h:cs.length=13):dn.toList.toArray.size=cs.toArray.size:=by rw [List.size_toArray,List.size_toArray,h];rfl
theorem we {w:World} {B N:Nat} {v:ar} {cs:List Value} (h:ar.At w B N v cs):cs.toArray.all (·.oneCell')=true:=Go.all_oneCell_toArray h.oneCell
theorem pY (w:World) (g L:Nat) (cs:Array Value) (hg:g<L):bO L none w (w.setRow g cs):=⟨by simp,fun q h1 _ _=>setRow_other _ _ _ _ (by omega)⟩
theorem zH (w:World) (o:Obj) (cs:List Value):bR ((w.alloc o).alloc (.cells cs.toArray 30)) (w.heap.size+1) cs:=by
 have:=heap_alloc_new (w.alloc o) (.cells cs.toArray 30)
 rw [World.size_alloc] at this
 exact this
set_option maxRecDepth 100000 in
set_option maxHeartbeats 1600000 in
theorem tw (n:Nat) (v:ar) (w:World) (B N:Nat) (cs:List Value) (hn:n≤65536) (hf:ik n v) (hN:N≤4294967296) (hB:B≤w.heap.size) (hv:ar.At w B N v cs) :
 Calls Tryz.prog 139 #[.agg cs.toArray] w (DM N v w):=by
 have HV:=Hd hv
 have HF:=Hd hf
 have hl:=Hd (show (Tryz.prog.info? 30).map (·.size)=some cs.length by rw [hv.len];exact bM)
 have H0:=Hd (show Below w.heap.size w ((w.alloc (.cells cs.toArray 30)).alloc (.cells dn 30)) from ae (af w _) (af _ _))
 have R0:=Hd (show aj ((w.alloc (.cells cs.toArray 30)).alloc (.cells dn 30)) w.heap.size 0 cs from (aA w cs 30).then (af _ _) (by rw [World.size_alloc];omega))
 have Q0:=Hd (show bR ((w.alloc (.cells cs.toArray 30)).alloc (.cells dn 30)) (w.heap.size+1) dn.toList from zH w _ dn.toList)
 have hsz:((w.alloc (.cells cs.toArray 30)).alloc (.cells dn 30)).heap.size=w.heap.size+2:=by rw [World.size_alloc,World.size_alloc]
 have HSZ:=Hd hsz
 clear hv hf hsz
 go_enter Tryz.func139,Tryz.ntmps139
 go_wp2_with (refine wpList_load_mid rfl 30 _ rfl w.heap.size 0 rfl cs _ R0.out.range Tryz.underlying30 rfl hl.out ?_)
 refine (vh n v _ B N cs 65536 (by omega) (by omega) HF.out hN (Nat.le_trans hB H0.out.size) (HV.out.below (H0.out.mono hB))).mono ?_
 rintro e w1 ⟨cs2,rfl,hsafe,hb⟩
 have hs1:w.heap.size+2≤w1.heap.size:=by have:=hb.size;rw [HSZ.out] at this;exact this
 have Q1:=Hd (Q0.out.below hb (by rw [HSZ.out];omega))
 have H1:=Hd (ae H0.out hb)
 have S1:=Hd (show bF (w.heap.size+2) none w1 (fun c=>ar.At c c.heap.size N v cs2) by rw [← HSZ.out];exact hsafe)
 have A1:=Hd hsafe.here
 have hlen:=hsafe.here.len
 clear hsafe hb
 go_wp2_with (refine wpList_store_row rfl 30 _ _ rfl (w.heap.size+1) cs2.toArray rfl rfl 30 dn Q1.out (pt hlen) (wd hlen) (we A1.out) ?_)
 refine bodyPost_ret (results_cell_row rfl _ _ (w.heap.size+1) 30 _ (0,0) _ rfl (setRow_heap _ _ _ _ _ _ Q1.out) Tryz.underlying30 rfl (pt hlen)) rfl ?_
 exact ⟨cs2,rfl,(S1.out.next (pY w1 (w.heap.size+1) (w.heap.size+2) _ (by omega)) (fun q _ h=>by cases h)).wide (by omega),below_setRow H1.out (by omega) _⟩
theorem aF.cellAt {w:World} {B N:Nat} {b:Nat}:∀ {l:List aZ} {o:Nat},aF w B N l (some ⟨b,o,none⟩)→∀ (j:Nat) u,(l.flatMap aZ.cells)[j]?=some u→w.cell? ⟨b,o+j,none⟩=some u
 | [],_,_,j,u,hu=>by simp at hu
 | p::r,o,⟨b',o',e,h2,h3,h4,h5⟩,j,u,hu=>by
   cases e
   match j,hu with
   | 0,hu=>exact (h4 0 (by simp [aZ.cells])).trans (by simpa [aZ.cells] using hu)
   | 1,hu=>exact (h4 1 (by simp [aZ.cells])).trans (by simpa [aZ.cells] using hu)
   | j+2,hu =>
     have:=aF.cellAt h5 j u (by simpa [aZ.cells] using hu)
     rw [show o+(j+2)=o+2+j by omega]
     exact this
theorem aF.src {w:World} {B N:Nat} {l:List aZ} {a:Option Addr} (h:aF w B N l a):kb w a l.length (l.flatMap aZ.cells):=by
 cases l with
 | nil=>exact ⟨fun _=>rfl,fun ad _ j u hu=>by simp at hu⟩
 | cons p r =>
   have h':=h
   obtain ⟨b,o,rfl,_⟩:=h'
   refine ⟨fun h=>(by cases h),fun ad e j u hu=>?_⟩
   cases e
   rw [bP]
   exact aF.cellAt h j u hu
theorem sH (l:List aZ):(l.flatMap aZ.cells).length=l.length * 2:=by
 induction l with
 | nil=>rfl
 | cons x r ih=>rw [List.flatMap_cons,List.length_append,ih,List.length_cons];simp [aZ.cells];omega
theorem sG (l:List aZ):∀ u∈l.flatMap aZ.cells,u.oneCell'=true:=by
 intro u hu
 obtain ⟨x,_,hx⟩:=List.mem_flatMap.1 hu
 simp [aZ.cells] at hx
 rcases hx with rfl | rfl<;>rfl
def D6 (w:World) (e:Ending) (w':World):Prop:=∃ (a:Option Addr) (n c:Nat),e=.returned (.slice a n c)∧Below w.heap.size w w'
theorem sZ:(Tryz.prog.info? 120).map (fun i=>(i.zero,i.size,i.bytes))=some (some (.agg #[.string ⟨#[]⟩,.bool false]),2,24):=by kernel_rfl
set_option maxRecDepth 100000 in
set_option maxHeartbeats 1600000 in
theorem vm (l:List aZ) (a:Option Addr) (c:Nat) (w:World) (B N:Nat) (hl:l.length≤1073741824) (hB:B≤w.heap.size) (h:aF w B N l a) :
 Calls Tryz.prog 137 #[.slice a l.length c] w (D6 w):=by
 obtain ⟨i0,hi,hz0,hz1,hz2⟩:=info_parts sZ
 have HI:=Hd hi
 have HZ0:=Hd hz0
 have HZ1:=Hd hz1
 have HZ2:=Hd hz2
 clear hi hz0 hz1 hz2
 have q26:∀ (w:World) (a:Option Addr) (n c n' c':Nat),(binOp .eql 70 (.slice a n c) (.slice none n' c')).run Tryz.prog w=.ok (.bool a.isNone) w:=fun w a n c n' c'=>Lib.run_eql_slice_nil w _ _ a n c n' c' Tryz.underlying70
 cases a with
 | none =>
   go_enter Tryz.func137,Tryz.ntmps137
   go_wp2_with fail
   go_ret
   exact ⟨_,_,_,rfl,Below.refl _ _⟩
 | some ad =>
   have HS:=Hd ((aF.below ((af w (.cells #[] 120)).mono hB) _ h).src)
   have HLEN:=Hd (sH l)
   clear h
   go_enter Tryz.func137,Tryz.ntmps137
   go_wp2_with (at_builtin;refine aU rfl _ _ 70 rfl w.heap.size 120 i0 (.agg #[.string ⟨#[]⟩,.bool false]) 2 24 Tryz.underlying70 HI.out HZ0.out HZ1.out HZ2.out rfl (by decide) _ _ _ rfl (World.ownsRow_made w #[] 0 (Nat.le_refl _) (Nat.zero_le _) rfl) (some ad) l.length c (l.flatMap aZ.cells) rfl HLEN.out HS.out (sG l) ?c4 ?c5 ?c6 ?_)
   case c4=>unfold maxLen;omega
   case c5=>omega
   case c6=>simp
   intro v1 w1 hown1 hgrow1
   obtain ⟨a1,c1,rfl⟩:=di hown1
   have HB1:=Hd (show Below w.heap.size w w1 from (af w _).grown hgrow1 (by simp) (by intro k hk;simp [Value.ownBlock] at hk;omega))
   clear hown1 hgrow1
   go_wp2
   go_ret
   exact ⟨_,_,_,rfl,HB1.out⟩
end Go.Proofs.YtiefeajappjnbaaGreatDoor

/- A call and a node of the checked program: module.walker.call, module.walker.node, datakitref38.names.node. -/
namespace Go.Proofs.YtiefeajappjnbaaGreatDoor
open Go.RowKit Go.Maps
def cb (ab pb:Nat):List Value:=[zr ab pb,.nilFunc]
def AH (w:World):Prop:=∃ m:Int,w.cell? ⟨3,0,none⟩=some (.int .i64 m)
theorem AH.then {w w':World} (h:AH w) (hb:Below w.heap.size w w'):AH w':=by
 obtain ⟨m,hm⟩:=h
 exact ⟨m,(hb.cell (World.block_lt_of_cell? w _ hm)).trans hm⟩
structure qR (ab pb:Nat) (l:List al) (B N:Nat) (w:World):Prop where
 rsl:vv ab pb l B N w
 tab:cI w
 max:AH w
theorem qR.then {ab pb:Nat} {l:List al} {B N:Nat} {w w':World} (h:qR ab pb l B N w) (hb:Below w.heap.size w w'):qR ab pb l B N w':=⟨h.rsl.then hb,h.tab.below hb,h.max.then hb⟩
def iq (s:ByteArray):Bool:=Lib.contains s.data.toList [58,58]
def dY (d:ScD):Prop:=∀ g∈d.gs,iq g.1=false∧0≤g.2
theorem dY.find {d:ScD} (h:dY d) {s:ByteArray} {n:Int} (hf:∃ g∈d.gs,g.1.toList=s.toList∧g.2=n):iq s=false∧0≤n:=by
 obtain ⟨g,hg,h1,h2⟩:=hf
 obtain ⟨h3,h4⟩:=h g hg
 have e:g.1=s:=ByteArray.ext (Array.toList_inj.1 (by rw [← ByteArray.toList_eq,← ByteArray.toList_eq];exact h1))
 subst e
 exact ⟨h3,by rw [← h2];exact h4⟩
structure qS (w u:World) (xa xb xc:List Value):Prop where
 r1:aj u w.heap.size 0 xa
 r2:aj u (w.heap.size+1) 0 xb
 r3:aj u (w.heap.size+2) 0 xc
 low:Below w.heap.size w u
 size:w.heap.size+3≤u.heap.size
theorem qS.start (w:World) (xa xb xc:List Value) (t1 t2 t3:TypeId):qS w (((w.alloc (.cells xa.toArray t1)).alloc (.cells xb.toArray t2)).alloc (.cells xc.toArray t3)) xa xb xc:=by
 have s1:(w.alloc (.cells xa.toArray t1)).heap.size=w.heap.size+1:=World.size_alloc _ _
 have s2:((w.alloc (.cells xa.toArray t1)).alloc (.cells xb.toArray t2)).heap.size=w.heap.size+2:=by rw [World.size_alloc,s1]
 refine ⟨((aA w xa t1).then (af _ _) (by rw [s1];omega)).then (af _ _) (by rw [s2];omega),?_,?_,ae (ae (af w _) (af _ _)) (af _ _),by rw [World.size_alloc,s2];omega⟩
 ·have h:=(aA (w.alloc (.cells xa.toArray t1)) xb t2).then (af _ (.cells xc.toArray t3)) (by rw [s2,s1];omega)
  rw [s1] at h
  exact h
 ·have h:=aA ((w.alloc (.cells xa.toArray t1)).alloc (.cells xb.toArray t2)) xc t3
  rw [s2] at h
  exact h
theorem qS.below {w u u':World} {xa xb xc:List Value} (h:qS w u xa xb xc) (hb:Below u.heap.size u u'):qS w u' xa xb xc :=
 ⟨h.r1.then hb (by have:=h.size;omega),h.r2.then hb (by have:=h.size;omega),h.r3.then hb (by have:=h.size;omega),ae h.low hb,Nat.le_trans h.size hb.size⟩
theorem uR (d:Nat) (f:Fn) (a b:Array Value) (w:World):(Op.equalIn (d+1) 136 (.func f a b) .nilFunc).run Tryz.prog w=.ok false w:=by
 simp [Op.equalIn,run_underlying Tryz.underlying136]
theorem uS (d:Nat) (w:World):(Op.equalIn (d+1) 138 .nilFunc .nilFunc).run Tryz.prog w=.ok true w:=by
 simp [Op.equalIn,run_underlying Tryz.underlying138]
theorem mj (w:World):(binOp .eql 138 .nilFunc .nilFunc).run Tryz.prog w=.ok (.bool true) w:=by
 simp only [binOp]
 simp [show (Op.equal 138 .nilFunc .nilFunc).run Tryz.prog w=.ok true w from uS 9999 w]
theorem xU (f:Fn) (a b:Array Value) (w:World):(binOp .eql 136 (.func f a b) .nilFunc).run Tryz.prog w=.ok (.bool false) w:=by
 simp only [binOp]
 simp [show (Op.equal 136 (.func f a b) .nilFunc).run Tryz.prog w=.ok false w from uR 9999 f a b w]
theorem mL (l:List ByteArray) (s:ByteArray):Lib.containsS l s=iV l s:=by
 unfold iV
 rw [Bool.eq_iff_iff,Lib.containsS_iff,List.any_eq_true]
 constructor
 ·intro h
  exact ⟨s,h,by simp⟩
 ·rintro ⟨t,h1,h2⟩
  obtain rfl:t=s:=ByteArray.ext (Array.toList_inj.1 (by rw [← ByteArray.toList_eq,← ByteArray.toList_eq];simpa using h2))
  exact h1
theorem mq (l:List ByteArray) (s:ByteArray) (a:Option Addr) (c:Nat) (w:World) (lo B:Nat) (hl:l.length≤1073741824) (h:bW w lo B l a) :
 Calls Tryz.prog 181 #[.slice a l.length c,.string s] w (fun e w'=>e=.returned (.bool (iV l s))∧w'=w):=by
 rcases h with rfl | ⟨b,rfl,h2,h3,h4⟩
 ·exact (Tryz.slices_Contains_string_empty a c s w).mono fun e w' h=>h
 ·refine (Tryz.slices_Contains_string b 0 l.length c l s w (Nat.le_refl _) (by omega) (fun j hj=>?_)).mono fun e w' h=>?_
  ·rw [Nat.zero_add,h4 j _ (List.getElem?_eq_getElem hj),List.getD_eq_getElem?_getD,List.getElem?_eq_getElem hj]
   rfl
  ·rw [List.take_length,mL] at h
   exact h
def DG (nm:ByteArray) (z:Int) (w:World) (e:Ending) (w':World):Prop:=∃ s:ByteArray,e=.returned (.tuple #[.string s,.int .i64 z])∧(z=0→s=nm)∧Below w.heap.size w w'
set_option maxRecDepth 100000 in
set_option maxHeartbeats 6400000 in
theorem CN (ab pb:Nat) (l:List al) (BE NE:Nat) (x:ag) (xs:List Value) (d:ScD) (cs:List Value) (w:World) (lo B B1 C N:Nat) (hC:C≤268435456) (hN:N≤268435456) (hB:B≤w.heap.size) (hE:qR ab pb l BE NE w) (hg:dY d) (h:ScD.At w lo B C d cs) (hx:ag.At w B1 N x xs) :
 Calls Tryz.prog 180 #[.agg (cb ab pb).toArray,.agg xs.toArray,.agg cs.toArray] w (DG x.name (mS (b5 l) x d) w):=by
 obtain ⟨aa,fa,ac,fc,vs,hh⟩:=hx.has
 have c1:=hh.name
 have c15:=hh.args
 have hal:x.args.length≤N:=hh.own.2.2.1
 have hnm:x.name.size≤N:=hh.own.2.1
 have HD:=Hd h
 have HE:=Hd hE
 have HG:=Hd hg
 have hsz:=Hd (show (Tryz.prog.info? 147).map (·.size)=some cs.length by rw [h.len];kernel_rfl)
 have B0:=Hd (qS.start w (cb ab pb) xs cs 140 34 147)
 have e1:=B0.out.r2.get0 c1
 obtain ⟨z,hz⟩:∃ z,mS (b5 l) x d=z:=⟨_,rfl⟩
 rw [hz]
 have HZ:=Hd hz
 clear hh hx h hE hg hz
 go_enter Tryz.func180,Tryz.ntmps180
 go_wp2_with (refine wpList_load_mid rfl 147 _ rfl (w.heap.size+1+1) 0 rfl cs _ B0.out.r3.range Tryz.underlying147 rfl hsz.out ?_)
 refine (Cg d x.name cs _ lo B C hC (Nat.le_trans hB B0.out.low.size) (HD.out.keep (a7.of_below (B0.out.low.mono hB)))).mono ?_
 rintro e u1 ⟨n,b,rfl,hfd,hmem,hb1⟩
 have HF:=Hd hfd
 have HM:=Hd hmem
 have B1:=Hd (B0.out.below hb1)
 clear hb1 e1 hfd hmem
 have e1:=B1.out.r2.get0 c1
 have e15:=B1.out.r2.get0 c15
 have w0:=B1.out.r1.get0 (j:=0) (v:=.func (.func 133) #[] #[.pointer (some ⟨ab,0,none⟩),.pointer (some ⟨pb,0,none⟩)]) rfl
 have w1:=B1.out.r1.get0 (j:=1) (v:=.nilFunc) rfl
 have HE1:=Hd (HE.out.then B1.out.low)
 have qr:=xU (.func 133) #[] #[.pointer (some ⟨ab,0,none⟩),.pointer (some ⟨pb,0,none⟩)] u1
 have qf:=mj u1
 cases b
 case true =>
  obtain ⟨hcol,hn0⟩:=HG.out.find (HM.out rfl)
  have HCOL:=Hd hcol
  obtain ⟨m,hm⟩:=HE1.out.max
  have HSC:=Hd (show x.name.size<4294967281 by omega)
  have HMM:=Hd hm
  clear hm hcol
  by_cases hna:n=(x.args.length:Int)
  ·have HR:=Hd (show z=0 by rw [← HZ.out,j8 (n:=n) HF.out hn0,ka hna])
   have hna1:(n != (x.args.length:Int))=false:=by simpa using hna
   have hna2:(n==(x.args.length:Int))=true:=by simpa using hna
   clear hna
   go_wp2_with fail
   refine (Tryz.strings_Contains x.name ⟨#[58,58]⟩ m u1 HSC.out HMM.out).mono ?_
   rintro e u2 ⟨rfl,rfl⟩
   rw [show Lib.contains x.name.data.toList (⟨#[58,58]⟩:ByteArray).data.toList=false from HCOL.out]
   go_wp2_with fail
   go_ret2
   exact ⟨_,by rw [HR.out];rfl,fun _=>rfl,B1.out.low⟩
  ·have HR:=Hd (show z=17 by rw [← HZ.out,j8 (n:=n) HF.out hn0,iS hna])
   have hna1:(n != (x.args.length:Int))=true:=by simpa using hna
   have hna2:(n==(x.args.length:Int))=false:=by simpa using hna
   clear hna
   go_wp2_with fail
   refine (Tryz.strings_Contains x.name ⟨#[58,58]⟩ m u1 HSC.out HMM.out).mono ?_
   rintro e u2 ⟨rfl,rfl⟩
   rw [show Lib.contains x.name.data.toList (⟨#[58,58]⟩:ByteArray).data.toList=false from HCOL.out]
   go_wp2_with fail
   go_ret2
   exact ⟨_,by rw [HR.out];rfl,fun h=>absurd (HR.out.symm.trans h) (by decide),B1.out.low⟩
 case false =>
  go_wp2_with fail
  refine (vl ab pb l x.name u1 BE NE (by unfold maxLen;omega) HE1.out.tab HE1.out.rsl).mono ?_
  rintro e u2 ⟨k,b,rfl,hr,hk0,hb2⟩
  have HRR:=Hd hr
  have B2:=Hd (B1.out.below hb2)
  clear hb2 hr e1 e15 w0 w1 qr qf
  have e15:=B2.out.r2.get0 c15
  cases b
  case false =>
   have HR:=Hd (show z=16 by rw [← HZ.out,tL HF.out HRR.out])
   go_wp2_with fail
   go_ret2
   exact ⟨_,by rw [HR.out];rfl,fun h=>absurd (HR.out.symm.trans h) (by decide),B2.out.low⟩
  case true =>
   by_cases hna:k=(x.args.length:Int)
   ·have HR:=Hd (show z=0 by rw [← HZ.out,iQ (n:=k) HF.out HRR.out hk0,ka hna])
    have hna1:(k != (x.args.length:Int))=false:=by simpa using hna
    have hna2:(k==(x.args.length:Int))=true:=by simpa using hna
    clear hna
    go_wp2_with fail
    go_ret2
    exact ⟨_,by rw [HR.out];rfl,fun _=>rfl,B2.out.low⟩
   ·have HR:=Hd (show z=17 by rw [← HZ.out,iQ (n:=k) HF.out HRR.out hk0,iS hna])
    have hna1:(k != (x.args.length:Int))=true:=by simpa using hna
    have hna2:(k==(x.args.length:Int))=false:=by simpa using hna
    clear hna
    go_wp2_with fail
    go_ret2
    exact ⟨_,by rw [HR.out];rfl,fun h=>absurd (HR.out.symm.trans h) (by decide),B2.out.low⟩
set_option maxRecDepth 100000 in
set_option maxHeartbeats 6400000 in
theorem Bx (ab pb:Nat) (l:List al) (BE NE:Nat) (x:ag) (xs:List Value) (d:ScD) (cs:List Value) (w:World) (lo B B1 C N:Nat) (hC:C≤268435456) (hN:N≤268435456) (hB:B≤w.heap.size) (hB1:B1≤w.heap.size) (hE:qR ab pb l BE NE w) (hg:dY d) (h:ScD.At w lo B C d cs) (hx:ag.At w B1 N x xs) :
 Calls Tryz.prog 138 #[.agg (cb ab pb).toArray,.agg xs.toArray,.agg cs.toArray] w (DG x.name (fo (b5 l) x d) w):=by
 have HX:=Hd hx
 obtain ⟨aa,fa,ac,fc,vs,hh⟩:=hx.has
 have c0:=hh.op
 have c1:=hh.name
 have hnm:x.name.size≤N:=hh.own.2.1
 have HD:=Hd h
 have HE:=Hd hE
 have HG:=Hd hg
 have hsz:=Hd (show (Tryz.prog.info? 147).map (·.size)=some cs.length by rw [h.len];kernel_rfl)
 have hsx:=Hd (show (Tryz.prog.info? 34).map (·.size)=some xs.length by rw [hx.len];kernel_rfl)
 have hsw:=Hd (show (Tryz.prog.info? 140).map (·.size)=some (cb ab pb).length by kernel_rfl)
 have B0:=Hd (qS.start w (cb ab pb) xs cs 140 34 147)
 have e0:=B0.out.r2.get0 c0
 have e1:=B0.out.r2.get0 c1
 have w1:=B0.out.r1.get0 (j:=1) (v:=.nilFunc) rfl
 obtain ⟨z,hz⟩:∃ z,fo (b5 l) x d=z:=⟨_,rfl⟩
 rw [hz]
 have HZ:=Hd hz
 clear hh hx h hE hg hz
 by_cases h21:x.op=21
 ·have HZ2:=Hd ((sK (R:=b5 l) (d:=d) h21).symm.trans HZ.out)
  rw [h21] at e0
  clear h21
  go_enter Tryz.func138,Tryz.ntmps138
  go_wp2_with (first
   | (refine wpList_load_mid rfl 147 _ rfl (w.heap.size+1+1) 0 rfl cs _ B0.out.r3.range Tryz.underlying147 rfl hsz.out ?_)
   | (refine wpList_load_mid rfl 34 _ rfl (w.heap.size+1) 0 rfl xs _ B0.out.r2.range Tryz.underlying34 rfl hsx.out ?_)
   | (refine wpList_load_mid rfl 140 _ rfl (w.heap.size) 0 rfl (cb ab pb) _ B0.out.r1.range Tryz.underlying140 rfl hsw.out ?_))
  refine (CN ab pb l BE NE x xs d cs _ lo w.heap.size w.heap.size C N hC hN B0.out.low.size (HE.out.then B0.out.low) HG.out ((HD.out.keep (a7.of_below (B0.out.low.mono hB))).mono hB (Nat.le_refl _)) (ag.At.mono hB1 _ (ag.At.below (B0.out.low.mono hB1) _ HX.out))).mono ?_
  rw [HZ2.out]
  rintro e u1 ⟨s,rfl,hs,hb1⟩
  have HS:=Hd hs
  have B1:=Hd (ae B0.out.low hb1)
  clear hb1 hs
  go_wp2_with fail
  go_ret2
  exact ⟨s,rfl,HS.out,B1.out⟩
 ·have d21:(x.op==21)=false:=by simpa using h21
  by_cases h4:x.op=4
  ·have HZ2:=Hd ((wv (R:=b5 l) (d:=d) h4).symm.trans HZ.out)
   rw [h4] at e0
   clear h4 d21 h21
   obtain ⟨va,la,ga,vc,lc,gc,rfl,hv,_,_,k1,_⟩:=HD.out
   have HN:=Hd (hv.keep (a7.of_below (B0.out.low.mono hB)))
   have hvl:d.vs.length≤1073741824:=by omega
   have e2:=B0.out.r3.get0 (j:=0) (v:=.slice va d.vs.length vc) rfl
   have qf:=mj (((w.alloc (.cells (cb ab pb).toArray 140)).alloc (.cells xs.toArray 34)).alloc (.cells [.slice va d.vs.length vc,.slice la d.ls.length lc,.slice ga d.gs.length gc].toArray 147))
   clear hv k1
   go_enter Tryz.func138,Tryz.ntmps138
   go_wp2_with fail
   refine (mq d.vs x.name va vc _ lo B hvl HN.out).mono ?_
   rintro e u1 ⟨rfl,rfl⟩
   cases hm:iV d.vs x.name
   ·have HR:=Hd (show z=16 by rw [← HZ2.out,hm];rfl)
    clear hm
    go_wp2_with fail
    go_ret2
    exact ⟨_,by rw [HR.out];rfl,fun h=>absurd (HR.out.symm.trans h) (by decide),B0.out.low⟩
   ·have HR:=Hd (show z=0 by rw [← HZ2.out,hm];rfl)
    clear hm
    go_wp2_with fail
    go_ret2
    exact ⟨_,by rw [HR.out];rfl,fun _=>rfl,B0.out.low⟩
  ·have d4:(x.op==4)=false:=by simpa using h4
   by_cases h27:x.op=27
   ·have HZ2:=Hd ((sJ (R:=b5 l) (d:=d) h27).symm.trans HZ.out)
    rw [h27] at e0
    clear h27 d4 d21 h21 h4
    obtain ⟨va,la,ga,vc,lc,gc,rfl,_,hv,_,_,k1,_⟩:=HD.out
    have HN:=Hd (hv.keep (a7.of_below (B0.out.low.mono hB)))
    have hvl:d.ls.length≤1073741824:=by omega
    have e2:=B0.out.r3.get0 (j:=1) (v:=.slice la d.ls.length lc) rfl
    have qf:=mj (((w.alloc (.cells (cb ab pb).toArray 140)).alloc (.cells xs.toArray 34)).alloc (.cells [.slice va d.vs.length vc,.slice la d.ls.length lc,.slice ga d.gs.length gc].toArray 147))
    clear hv k1
    go_enter Tryz.func138,Tryz.ntmps138
    go_wp2_with fail
    refine (mq d.ls x.name la lc _ lo B hvl HN.out).mono ?_
    rintro e u1 ⟨rfl,rfl⟩
    cases hm:iV d.ls x.name
    ·have HR:=Hd (show z=16 by rw [← HZ2.out,hm];rfl)
     clear hm
     go_wp2_with fail
     go_ret2
     exact ⟨_,by rw [HR.out];rfl,fun h=>absurd (HR.out.symm.trans h) (by decide),B0.out.low⟩
    ·have HR:=Hd (show z=0 by rw [← HZ2.out,hm];rfl)
     clear hm
     go_wp2_with fail
     go_ret2
     exact ⟨_,by rw [HR.out];rfl,fun _=>rfl,B0.out.low⟩
   ·have HR:=Hd (show z=0 by rw [← HZ.out];exact sI h21 h4 h27)
    have d27:(x.op==27)=false:=by simpa using h27
    clear h27 h4 h21
    go_enter Tryz.func138,Tryz.ntmps138
    go_wp2_with fail
    go_ret2
    exact ⟨_,by rw [HR.out];rfl,fun _=>rfl,B0.out.low⟩
end Go.Proofs.YtiefeajappjnbaaGreatDoor

/- What stands while a node is visited (either side): boxes, the result as it grows. -/
namespace Go.Proofs.YtiefeajappjnbaaGreatDoor
open Go.RowKit
theorem iv {B q:Nat} (a:World) (o:Nat) (u:Value) (hq:B≤q):Below B a (a.setCell ⟨q,o,none⟩ u):=⟨rfl,rfl,rfl,by simp,fun k hk=>heap_setCell_other a _ k u (by show k≠q;omega)⟩
theorem aM {B q:Nat} (a:World) (cs:Array Value) (hq:B≤q):Below B a (a.setRow q cs):=⟨rfl,rfl,rfl,by simp,fun k hk=>setRow_other _ _ _ _ (by omega)⟩
def bt:List Value:=[.int .i64 0,.string ⟨#[]⟩,.int .i64 0,.bool false,.bool false,.string ⟨#[]⟩,.int .i64 0,.int .i64 0,.int .i64 0,.int .i64 0,.int .i64 0,.string ⟨#[]⟩,.slice none 0 0,.slice none 0 0,.slice none 0 0,.slice none 0 0,.slice none 0 0]
def gl:List Value:=[.string ⟨#[]⟩,.slice none 0 0,.int .i64 0,.string ⟨#[]⟩,.int .i64 0,.bool false,.bool false,.string ⟨#[]⟩,.int .i64 0,.int .i64 0,.int .i64 0,.int .i64 0,.int .i64 0,.string ⟨#[]⟩,.slice none 0 0,.slice none 0 0,.slice none 0 0,.slice none 0 0,.slice none 0 0]
structure dK (wl:List Value) (tS:TypeId) (w u:World) (xs cs zs:List Value) (t:TypeId):Prop where
 r1:aj u w.heap.size 0 wl
 r2:aj u (w.heap.size+1) 0 xs
 box:u.heap[w.heap.size+2]?=some (.cells cs.toArray tS (0,0))
 out:u.heap[w.heap.size+3]?=some (.cells zs.toArray t (0,0))
 low:Below w.heap.size w u
 size:w.heap.size+4≤u.heap.size
theorem dK.step {wl:List Value} {tS:TypeId} {w u u':World} {xs cs zs:List Value} {t:TypeId} (h:dK wl tS w u xs cs zs t) (hb:Below (w.heap.size+4) u u'):dK wl tS w u' xs cs zs t :=
 ⟨h.r1.below hb (by omega),h.r2.below hb (by omega),(hb.block _ (by omega)).trans h.box,(hb.block _ (by omega)).trans h.out,h.low.trans (hb.mono (by omega)),Nat.le_trans h.size hb.size⟩
theorem dK.below {wl:List Value} {tS:TypeId} {w u u':World} {xs cs zs:List Value} {t:TypeId} (h:dK wl tS w u xs cs zs t) (hb:Below u.heap.size u u'):dK wl tS w u' xs cs zs t:=h.step (hb.mono h.size)
theorem dK.start (wl:List Value) (tW tS tX t:TypeId) (w:World) (xs cs zs:List Value):dK wl tS w ((((w.alloc (.cells wl.toArray tW)).alloc (.cells xs.toArray tX)).alloc (.cells cs.toArray tS)).alloc (.cells zs.toArray t)) xs cs zs t:=by
 have h:=qS.start w wl xs cs tW tX tS
 have s1:(w.alloc (.cells wl.toArray tW)).heap.size=w.heap.size+1:=World.size_alloc _ _
 have s2:((w.alloc (.cells wl.toArray tW)).alloc (.cells xs.toArray tX)).heap.size=w.heap.size+2:=by rw [World.size_alloc,s1]
 have s3:(((w.alloc (.cells wl.toArray tW)).alloc (.cells xs.toArray tX)).alloc (.cells cs.toArray tS)).heap.size=w.heap.size+3:=by rw [World.size_alloc,s2]
 have h2:=h.below (af _ (.cells zs.toArray t))
 refine ⟨h2.r1,h2.r2,?_,?_,h2.low,by rw [World.size_alloc,s3];omega⟩
 ·have h3:=heap_alloc_new ((w.alloc (.cells wl.toArray tW)).alloc (.cells xs.toArray tX)) (.cells cs.toArray tS)
  rw [s2] at h3
  exact (heap_alloc_old _ _ (by rw [s3];omega)).trans h3
 ·have h3:=heap_alloc_new (((w.alloc (.cells wl.toArray tW)).alloc (.cells xs.toArray tX)).alloc (.cells cs.toArray tS)) (.cells zs.toArray t)
  rw [s3] at h3
  exact h3
theorem dK.scp {wl:List Value} {tS:TypeId} {w u:World} {xs cs zs:List Value} {t:TypeId} (h:dK wl tS w u xs cs zs t) {j:Nat} {v:Value} (hv:cs[j]?=some v):u.cell? ⟨w.heap.size+2,j,none⟩=some v:=by
 rw [cell_of_row u (w.heap.size+2) j _ _ _ h.box];simpa using hv
theorem dK.frozen {wl:List Value} {tS:TypeId} {w u:World} {xs cs zs:List Value} {t:TypeId} (h:dK wl tS w u xs cs zs t) (j:Nat):u.frozen? ⟨w.heap.size+2,j,none⟩=false:=frozen_of_row u (w.heap.size+2) j _ _ h.box
theorem dK.range {wl:List Value} {tS:TypeId} {w u:World} {xs cs zs:List Value} {t:TypeId} (h:dK wl tS w u xs cs zs t):u.rangeAt (w.heap.size+2) 0 cs:=fun j v hv=>by rw [Nat.zero_add];exact h.scp hv
theorem dK.setCell {wl:List Value} {tS:TypeId} {w u:World} {xs cs zs:List Value} {t:TypeId} (h:dK wl tS w u xs cs zs t) (j:Nat) (v:Value):dK wl tS w (u.setCell ⟨w.heap.size+2,j,none⟩ v) xs (cs.set j v) zs t:=by
 have hc:∀ b o ys,b≠w.heap.size+2→aj u b o ys→aj (u.setCell ⟨w.heap.size+2,j,none⟩ v) b o ys:=fun b o ys hb hy k hk=>by
  rw [← hy k hk]
  simp only [World.cell?]
  rw [heap_setCell_other _ _ _ _ (by simpa using hb)]
 refine ⟨hc _ _ _ (by omega) h.r1,hc _ _ _ (by omega) h.r2,?_,(heap_setCell_other _ _ _ _ (by simp)).trans h.out,h.low.trans (iv _ _ _ (by omega)),by have:=h.size;simpa using this⟩
 rw [heap_setCell_same u (w.heap.size+2) j _ _ _ h.box]
 simp
theorem aj.part {u:World} {b:Nat} {xs vs:List Value} {o n:Nat} (h:aj u b 0 xs) (hv:(xs.drop o).take n=vs):u.rangeAt b o vs:=fun j v hj=>by
 subst hv
 rw [List.getElem?_take] at hj
 split at hj
 ·rw [List.getElem?_drop] at hj
  have:=h.range (o+j) v hj
  rwa [Nat.zero_add] at this
 ·cases hj
def jN (x:ag) (ya la va:Option Addr) (yc lc vc:Nat):List Value :=
 [.int .i64 x.op,.string x.name,.int .i64 x.val.kind,.bool x.val.bool,.bool x.val.num.neg,.string x.val.num.digits,.int .i64 x.val.num.exp,.int .i64 x.val.time.kind,.int .i64 x.val.time.day,.int .i64 x.val.time.nano,.int .i64 x.val.time.offset,
  .string x.val.text,.slice ya x.val.bytes.length yc,.slice la x.val.list.length lc,.slice va x.val.fields.length vc,.slice none 0 0,.slice none 0 0]
theorem kr (x:ag) (ya la va:Option Addr) (yc lc vc:Nat):(jN x ya la va yc lc vc).toArray.all (·.oneCell')=true:=Go.all_oneCell_toArray (by intro u hu;simp [jN] at hu;rcases hu with rfl | rfl | rfl | rfl | rfl | rfl | rfl | rfl | rfl | rfl | rfl | rfl | rfl | rfl | rfl | rfl | rfl<;>rfl)
theorem nw (x:ag) (ya la va:Option Addr) (yc lc vc:Nat):(Tryz.prog.info? 34).map (·.size)=some (jN x ya la va yc lc vc).toArray.size:=ay
structure fE (u:World) (q:Nat):Prop where
 has:∃ (rs:List Value) (i:Int),u.heap[q]?=some (.cells rs.toArray 34 (0,0))∧rs.length=17∧rs.toArray.all (·.oneCell')=true∧rs[0]?=some (.int .i64 i)∧rs[15]?=some (.slice none 0 0)∧rs[16]?=some (.slice none 0 0)
theorem fE.start {u:World} {q:Nat} (x:ag) (ya la va:Option Addr) (yc lc vc:Nat) (h:u.heap[q]?=some (.cells (jN x ya la va yc lc vc).toArray 34 (0,0))):fE u q :=
 ⟨_,x.op,h,rfl,kr x ya la va yc lc vc,rfl,rfl,rfl⟩
theorem fE.lt {u:World} {q:Nat} (h:fE u q):q<u.heap.size:=by
 obtain ⟨_,_,h1,_⟩:=h.has
 exact (Array.getElem?_eq_some_iff.1 h1).1
theorem fE.keep {u u':World} {q:Nat} (h:fE u q) (hb:a7 q u.heap.size u u'):fE u' q:=by
 have hl:=h.lt
 obtain ⟨rs,i,h1,h2⟩:=h.has
 exact ⟨rs,i,(hb q (Nat.le_refl _) hl).trans h1,h2⟩
theorem fE.below {u u':World} {q:Nat} (h:fE u q) (hb:Below u.heap.size u u'):fE u' q:=h.keep (a7.of_below hb)
theorem fE.setCell {u:World} {q g j:Nat} {v:Value} (h:fE u q) (hg:g<q):fE (u.setCell ⟨g,j,none⟩ v) q:=h.keep (fun k h1 h2=>heap_setCell_other _ _ _ _ (by show k≠g;omega))
structure ke (u:World) (q base j:Nat) (t:TypeId) (sz n:Nat):Prop where
 has:∃ (rs:List Value) (i:Int) (v:Value) (xs:List Value),u.heap[q]?=some (.cells rs.toArray 34 (0,0))∧rs.length=17∧rs.toArray.all (·.oneCell')=true∧rs[0]?=some (.int .i64 i)∧(j=16→rs[15]?=some (.slice none 0 0))∧rs[j]?=some v∧u.ownsRow base t sz v n xs
 lt:q<base
 size:base≤u.heap.size
theorem fE.next {u:World} {q base sz:Nat} {t:TypeId} (h:fE u q) (h1:q<base) (h2:base≤u.heap.size):ke u q base 16 t sz 0:=by
 obtain ⟨rs,i,t1,t2,t3,t4,t5,t6⟩:=h.has
 exact ⟨⟨rs,i,_,[],t1,t2,t3,t4,fun _=>t5,t6,World.ownsRow_nil _ _ _ _⟩,h1,h2⟩
theorem ke.next {u:World} {q base n sz sz':Nat} {t t':TypeId} (h:ke u q base 16 t sz n):ke u q base 15 t' sz' 0:=by
 obtain ⟨rs,i,v,xs,h1,h2,h3,h4,h5,h6,h7⟩:=h.has
 exact ⟨⟨rs,i,_,[],h1,h2,h3,h4,fun h=>absurd h (by decide),h5 rfl,World.ownsRow_nil _ _ _ _⟩,h.lt,h.size⟩
theorem pL {w w':World} {B n sz:Nat} {t:TypeId} {v:Value} {xs:List Value} (h:w.ownsRow B t sz v n xs) (hb:a7 B w.heap.size w w'):w'.ownsRow B t sz v n xs:=by
 refine ⟨h.1,?_⟩
 rcases h.2 with hn | ⟨g,cap,cur,rfl,h1,h2,rest⟩
 ·exact .inl hn
 ·exact .inr ⟨g,cap,cur,rfl,h1,(hb g h1 (Array.getElem?_eq_some_iff.1 h2).1).trans h2,rest⟩
theorem ke.keep {u u':World} {q base j sz n:Nat} {t:TypeId} (h:ke u q base j t sz n) (hb:a7 q u.heap.size u u') (hs:u.heap.size≤u'.heap.size):ke u' q base j t sz n:=by
 have hl:=h.lt
 have hs0:=h.size
 obtain ⟨rs,i,v,xs,h1,h2,h3,h4,h5,h6,h7⟩:=h.has
 exact ⟨⟨rs,i,v,xs,(hb q (Nat.le_refl _) (by omega)).trans h1,h2,h3,h4,h5,h6,pL h7 (fun k h1 h2=>hb k (by omega) h2)⟩,hl,by omega⟩
theorem ke.below {u u':World} {q base j sz n:Nat} {t:TypeId} (h:ke u q base j t sz n) (hb:Below u.heap.size u u'):ke u' q base j t sz n:=h.keep (a7.of_below hb) hb.size
theorem zy {u:World} {B sz n:Nat} {t:TypeId} {v:Value} {xs:List Value} (h:u.ownsRow B t sz v n xs):v.oneCell'=true:=by
 rcases h.2 with ⟨rfl,_⟩ | ⟨g,cap,cur,rfl,_⟩<;>rfl
theorem dD {u:World} {B sz n:Nat} {t:TypeId} {v:Value} {xs:List Value} (h:u.ownsRow B t sz v n xs):∃ a c,v=.slice a n c:=by
 rcases h.2 with ⟨rfl,rfl⟩ | ⟨g,cap,cur,rfl,_⟩
 ·exact ⟨_,_,rfl⟩
 ·exact ⟨_,_,rfl⟩
theorem pK {u:World} {B sz n q j:Nat} {t:TypeId} {v x:Value} {xs:List Value} (h:u.ownsRow B t sz v n xs) (hq:q<B):(u.setCell ⟨q,j,none⟩ x).ownsRow B t sz v n xs :=
 pL h fun k h1 _=>heap_setCell_other _ _ _ _ (by show k≠q;omega)
theorem ke.put {u:World} {q j sz m:Nat} {t:TypeId} {rs:List Value} {i:Int} {v:Value} {xs:List Value} (h1:u.heap[q]?=some (.cells rs.toArray 34 (0,0))) (h2:rs.length=17) (h3:rs.toArray.all (·.oneCell')=true) (h4:rs[0]?=some (.int .i64 i)) (h5:j=16→rs[15]?=some (.slice none 0 0)) (hj0:0<j) (hj:j<17)
 {base:Nat} (hqb:q<base) (hsb:base≤u.heap.size) (h7:u.ownsRow base t sz v m xs):ke (u.setCell ⟨q,j,none⟩ v) q base j t sz m:=by
 refine ⟨⟨rs.set j v,i,v,xs,?_,by simpa using h2,?_,?_,fun e=>?_,by rw [List.getElem?_set_self (by omega)],pK h7 (by omega)⟩,hqb,by simpa using hsb⟩
 ·rw [heap_setCell_same u q j _ _ _ h1]
  simp
 ·refine Go.all_oneCell_toArray (fun x hx=>?_)
  rcases List.mem_or_eq_of_mem_set hx with hx | rfl
  ·exact (List.all_eq_true.1 (by simpa using h3)) x hx
  ·exact zy h7
 ·rw [List.getElem?_set_ne (by omega)];exact h4
 ·rw [List.getElem?_set_ne (by omega)];exact h5 e
theorem bW.setInt {u:World} {lo B:Nat} {l:List ByteArray} {a:Option Addr} (h:bW u lo B l a) {q:Nat} {i:Int} (hq:u.cell? ⟨q,0,none⟩=some (.int .i64 i)) (j:Nat) (v:Value):bW (u.setCell ⟨q,j,none⟩ v) lo B l a:=by
 rcases h with h | ⟨b,h1,h2,h3,h4⟩
 ·exact .inl h
 ·cases hl:l with
  | nil=>exact .inl rfl
  | cons y r =>
    have h0:=h4 0 y (by rw [hl];rfl)
    have hb:b≠q:=fun e=>by
     subst e
     rw [hq] at h0
     cases h0
    rw [← hl]
    refine .inr ⟨b,h1,h2,h3,fun k z hz=>?_⟩
    rw [← h4 k z hz]
    simp only [World.cell?]
    rw [heap_setCell_other _ _ _ _ hb]
theorem co.setInt {u:World} {lo B:Nat} {l:List (ByteArray×Int)} {a:Option Addr} (h:co u lo B l a) {q:Nat} {i:Int} (hq:u.cell? ⟨q,0,none⟩=some (.int .i64 i)) (j:Nat) (v:Value):co (u.setCell ⟨q,j,none⟩ v) lo B l a:=by
 rcases h with h | ⟨b,h1,h2,h3,h4⟩
 ·exact .inl h
 ·cases hl:l with
  | nil=>exact .inl rfl
  | cons y r =>
    have h0:=h4 0 (.string y.1) (by rw [hl];rfl)
    have hb:b≠q:=fun e=>by
     subst e
     rw [hq] at h0
     cases h0
    rw [← hl]
    refine .inr ⟨b,h1,h2,h3,fun k z hz=>?_⟩
    rw [← h4 k z hz]
    simp only [World.cell?]
    rw [heap_setCell_other _ _ _ _ hb]
theorem ScD.At.setInt {u:World} {lo B K:Nat} {d:ScD} {cs:List Value} (h:ScD.At u lo B K d cs) {q:Nat} {i:Int} (hq:u.cell? ⟨q,0,none⟩=some (.int .i64 i)) (j:Nat) (v:Value):ScD.At (u.setCell ⟨q,j,none⟩ v) lo B K d cs:=by
 obtain ⟨va,la,ga,vc,lc,gc,h0,h1,h2,h3,h4⟩:=h
 exact ⟨va,la,ga,vc,lc,gc,h0,h1.setInt hq j v,h2.setInt hq j v,h3.setInt hq j v,h4⟩
theorem xm:∃ z:Array Value,z.size=17∧(Tryz.prog.info? 34).map (fun i=>(i.zero,i.size,i.bytes))=some (some (.agg z),17,240):=⟨bt.toArray,rfl,by kernel_rfl⟩
theorem cf {u:World} {q:Nat} {cs:List Value} {t:TypeId} (h:u.heap[q]?=some (.cells cs.toArray t (0,0))):u.rangeAt q 0 cs:=fun j v hv=>by
 rw [Nat.zero_add,cell_of_row u q j _ _ _ h];simpa using hv
theorem wpAnyH_takeT {P:Program} {ops:Array Oper} {Q:Exit→Act→World→Prop} {md:Region.Mode} {S:World→Prop} {i:Nat} {oi:Oper} {v:Value} {fuel:Nat} {listed:Array Bool} {l:List Value} {df:List Deferred} {w:World} (t:Nat) (hi:ops[i]?=some oi) (hd:oi.dst=some t)
 (hs:Region.noSelect ops=true) (hf:Region.free md ops listed i=true) (hr:(Region.ready md ops listed).contains i=true)
 (hQ:∀ c a w,Q (.panic c) (a.put oi.dst v) w→Q (.panic c) a w) (hy:YieldsIf P ops S oi v ⟨l.toArray,df⟩) (hS:S w)
 (h:wpAnyH P md ops Q S fuel (listed.setIfInBounds i true) ⟨(l.set t v).toArray,df⟩ w):wpAnyH P md ops Q S (fuel+1) listed ⟨l.toArray,df⟩ w:=by
 refine wpAnyH_take hi hs hf hr hQ hy hS ?_
 have e:Act.put (⟨l.toArray,df⟩:Act) oi.dst v=⟨(l.set t v).toArray,df⟩:=by
  rw [hd]
  simp [Act.put]
 rw [e]
 exact h
structure eO (wl:List Value) (tS:TypeId) (w u:World) (xs cs1:List Value) (lo HB C:Nat) (d1:ScD) (q j:Nat) (t:TypeId) (sz n:Nat):Prop where
 vis:dK wl tS w u xs cs1 bt 34
 sc:ScD.At u lo HB C d1 cs1
 ret:ke u q HB j t sz n
theorem eO.below {wl:List Value} {tS:TypeId} {w u u':World} {xs cs1:List Value} {lo HB C:Nat} {d1:ScD} {q j sz n:Nat} {t:TypeId} (h:eO wl tS w u xs cs1 lo HB C d1 q j t sz n) (hb:Below u.heap.size u u'):eO wl tS w u' xs cs1 lo HB C d1 q j t sz n :=
 ⟨h.vis.below hb,h.sc.keep (a7.of_below (hb.mono h.ret.size)),h.ret.below hb⟩
theorem eO.grow {wl:List Value} {tS:TypeId} {w u:World} {xs cs1:List Value} {lo HB C:Nat} {d1:ScD} {q j sz n:Nat} {t:TypeId} (h:eO wl tS w u xs cs1 lo HB C d1 q j t sz n) (hq:w.heap.size+4≤q) (hj0:0<j) (hj:j<17)
 {rs:List Value} {i:Int} {v:Value} {xr:List Value} (t1:u.heap[q]?=some (.cells rs.toArray 34 (0,0))) (t2:rs.length=17) (t3:rs.toArray.all (·.oneCell')=true) (t4:rs[0]?=some (.int .i64 i)) (t5:j=16→rs[15]?=some (.slice none 0 0)) (t6:rs[j]?=some v) (t7:u.ownsRow HB t sz v n xr)
 {o:Obj} {w':World} {v':Value} {m:Nat} {xr':List Value} (hown:w'.ownsRow HB t sz v' m xr') (hg:(u.alloc o).grownBy w' v.ownBlock) :
 eO wl tS w (w'.setCell ⟨q,j,none⟩ v') xs cs1 lo HB C d1 q j t sz m∧w'.frozen? ⟨q,j,none⟩=false∧w'.cell? ⟨q,j,none⟩=some v:=by
 have hlt:=h.ret.lt
 have hsz:=h.ret.size
 have hsg:=hg.size
 rw [World.size_alloc] at hsg
 have KP:∀ k,k<HB→w'.heap[k]?=u.heap[k]?:=fun k hk=>(hg.block k (by rw [World.size_alloc];omega) (fun e=>by have:=(t7.lt k e.symm).1;omega)).trans (heap_alloc_old u o (by omega))
 have t1':=(KP q hlt).trans t1
 have hF:Below (w.heap.size+4) u w':=⟨hg.os,hg.tape,hg.output,by omega,fun k hk=>KP k (by omega)⟩
 have hc0:w'.cell? ⟨q,0,none⟩=some (.int .i64 i):=by
  have:=cf t1' 0 _ t4
  rwa [Nat.zero_add] at this
 exact ⟨⟨h.vis.step (hF.trans (iv w' j v' hq)),(h.sc.keep (fun k _ hk=>KP k hk)).setInt hc0 j v',ke.put t1' t2 t3 t4 t5 hj0 hj hlt (by omega) hown⟩,frozen_of_row w' q j _ _ t1',by have:=cf t1' j _ t6;rwa [Nat.zero_add] at this⟩
def DA (z:Int) (w:World) (e:Ending) (w':World):Prop:=∃ rs:List Value,e=.returned (.tuple #[.agg rs.toArray,.int .i64 z])∧rs.length=17∧rs.toArray.all (·.oneCell')=true∧Below w.heap.size w w'
theorem vY {α:Type} {l:List α} {j:Nat} {v:α} (h:l[j]?=some v):l.set j v=l:=by
 apply List.ext_getElem?
 intro i
 rw [List.getElem?_set]
 split
 ·rename_i e
  subst e
  split
  ·exact h.symm
  ·rename_i hn
   rw [List.getElem?_eq_none (by omega)]
 ·rfl
end Go.Proofs.YtiefeajappjnbaaGreatDoor
