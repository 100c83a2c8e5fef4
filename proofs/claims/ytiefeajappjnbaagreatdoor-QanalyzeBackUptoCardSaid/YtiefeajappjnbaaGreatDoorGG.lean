/- The zero value. -/
import Derived.Test.YtiefeajappjnbaaGreatDoorHQ
import Derived.Test.YtiefeajappjnbaaGreatDoorGB
import Derived.Test.YtiefeajappjnbaaGreatDoorGA
import Derived.Deep.Light
namespace Go.Proofs.YtiefeajappjnbaaGreatDoor
open Go.RowKit
def bj (v:ar):Bool :=
 decide (v.kind=0∧v.bool=false∧eb v.num ⟨false,⟨#[]⟩,0⟩=true∧ed v.time ⟨0,0,0,0⟩=true∧v.text.size=0∧v.bytes.length=0∧v.list.length=0∧v.fields.length=0)
theorem iA (v:ar):bj v=true↔(v.kind=0∧v.bool=false∧eb v.num ⟨false,⟨#[]⟩,0⟩=true∧ed v.time ⟨0,0,0,0⟩=true∧v.text.toList=[]∧(v.bytes.length:Int)=0∧(v.list.length:Int)=0∧(v.fields.length:Int)=0):=by
 unfold bj
 rw [decide_eq_true_eq,aH]
 simp only [Int.natCast_eq_zero]
end Go.Proofs.YtiefeajappjnbaaGreatDoor

/- What the check of an expression finds (layer 36): plain functions. No program here. -/
namespace Go.Proofs.YtiefeajappjnbaaGreatDoor
open Go.RowKit
def pC:List (List UInt8):=[[43],[45],[42],[47],[37]]
def qw:List (List UInt8):=[[61,61],[33,61],[60],[60,61],[62],[62,61]]
def jo (v:ar):Bool:=decide (v.kind=0∨v.kind=1∨(v.kind=2∧v.num.neg=false)∨v.kind=4)
def dX (e:ag):Bool:=decide (e.op=30∧e.name.size=0∧bj e.val=true∧e.args.length=0∧e.funcs.length=0)
def bT (op:Int):Int :=
 if op=1∨op=2∨op=3∨op=4∨op=27 then 0 else
 if op=5∨op=8∨op=11∨op=26∨op=23 then 1 else
 if op=6∨op=9∨op=10∨op=14∨op=15∨op=16∨op=28∨op=29∨op=12∨op=13∨op=22 then 2 else
 if op=7 then 3 else if op=17 then 2 else if op=18 then 3 else if op=19 then 3 else if op=20 then 4 else if op=24 then 1 else -1
def lS (op:Int):Nat:=if op=7∨op=17 then 1 else if op=18 then 2 else if op=20 then 3 else if op=24 then 0 else if op=21∨op=25 then 65536 else 9
def ft (op:Int):Bool:=decide (op=4∨op=27∨op=19∨op=20∨op=22∨op=26)
def eG (op:Int):Bool:=ft op || decide (op=5∨op=12∨op=13∨op=21)
def eL (op:Int) (s:List UInt8):Bool:=if op=12 then pC.contains s else qw.contains s
def mE (op:Int) (l:List ag) (i:Nat):Bool:=decide ((l.getD i default).op=30→lS op≤i∧dX (l.getD i default)=true)
def eN (op:Int) (l:List ag):Bool:=(List.range l.length).all (mE op l)
def bh (e:ag):Bool :=
 decide (1≤e.op∧e.op≤29∧(0≤bT e.op→(e.args.length:Int)=bT e.op)∧(e.op=21→e.args.length≤8)∧(e.op=25→e.args.length % 2=0)∧eN e.op e.args=true ∧
  ¬ (e.op=7∧(e.args.getD 1 default).op=30∧(e.args.getD 2 default).op=30)∧(eG e.op=true∨e.name.size=0)∧(e.op=3∨bj e.val=true)∧(e.op=23∨e.funcs.length=0) ∧
  ((e.op=12∨e.op=13)→eL e.op e.name.toList=true)∧(e.op=3→jo e.val=true)∧(e.op=23→0<e.funcs.length))
def i7 (idB:ByteArray→Bool):List ByteArray→List aZ→Int
 | _,[]=>0
 | seen,p::r=>if idB p.name=false then 16 else if (seen.any fun s=>s.toList==p.name.toList)=true then 8 else i7 idB (seen++[p.name]) r
def eM (idB:ByteArray→Bool) (seen:List ByteArray) (nm:ByteArray) (ps:List aZ):Int :=
 if idB nm=false then 16 else if 8<ps.length then 10 else if i7 idB [] ps≠0 then i7 idB [] ps else if (seen.any fun s=>s.toList==nm.toList)=true then 8 else 0
def cF (idB:ByteArray→Bool) (f:ag→Int→Int×Int):List ByteArray→List al→Int→Int×Int
 | _,[],s=>(s,0)
 | seen,x::r,s=>if eM idB seen x.name x.params≠0 then (s,eM idB seen x.name x.params) else if (f x.body s).2≠0 then f x.body s else cF idB f (seen++[x.name]) r (f x.body s).1
def gN (m:Nat) (f:ag→Int→Int×Int) (e:ag) (s:Int):Int×Int :=
 if e.op=30 then (if m=0 then (s,9) else if 4096≤s then (s,10) else (s+1,0)) else f e s
def hZ (m:Nat) (f:ag→Int→Int×Int):List ag→Int→Int×Int
 | [],s=>(s,0)
 | x::r,s=>if (gN m f x s).2≠0 then gN m f x s else hZ m f r (gN m f x s).1
def aV (idB:ByteArray→Bool) (rgB:ag→Bool):Nat→ag→Int→Int×Int
 | 0,_,s=>(s,9)
 | m+1,e,s =>
   if 4096≤s then (s,10) else if bh e=false then (s+1,1) else if e.op=3∧dJ e.val≠0 then (s+1,dJ e.val) else if rgB e=false then (s+1,16)
   else if 256<e.funcs.length then (s+1,10)
   else if (cF idB (aV idB rgB m) [] e.funcs (s+1)).2≠0 then cF idB (aV idB rgB m) [] e.funcs (s+1)
   else hZ m (aV idB rgB m) e.args (cF idB (aV idB rgB m) [] e.funcs (s+1)).1
theorem nE {e:ag} (h:bh e=true) (h3:e.op≠23):e.funcs=[]:=by
 obtain ⟨_,_,_,_,_,_,_,_,_,hf,_⟩:=of_decide_eq_true h
 rcases hf with hf | hf
 ·exact absurd hf h3
 ·exact List.length_eq_zero_iff.1 hf
theorem jt (idB:ByteArray→Bool) (f:ag→Int→Int×Int) {l:List al} {i:Nat} (h:i<l.length) (seen:List ByteArray) (s:Int) :
 cF idB f seen (l.drop i) s=if eM idB seen l[i].name l[i].params≠0 then (s,eM idB seen l[i].name l[i].params) else if (f l[i].body s).2≠0 then f l[i].body s else cF idB f (seen++[l[i].name]) (l.drop (i+1)) (f l[i].body s).1:=by
 rw [List.drop_eq_getElem_cons h]
 rfl
theorem rr (m:Nat) (f:ag→Int→Int×Int) {l:List ag} {i:Nat} (h:i<l.length) (s:Int) :
 hZ m f (l.drop i) s=if (gN m f l[i] s).2≠0 then gN m f l[i] s else hZ m f (l.drop (i+1)) (gN m f l[i] s).1:=by
 rw [List.drop_eq_getElem_cons h]
 rfl
theorem fk (idB:ByteArray→Bool) {l:List aZ} {i:Nat} (h:i<l.length) (seen:List ByteArray) :
 i7 idB seen (l.drop i)=if idB l[i].name=false then 16 else if (seen.any fun s=>s.toList==l[i].name.toList)=true then 8 else i7 idB (seen++[l[i].name]) (l.drop (i+1)):=by
 rw [List.drop_eq_getElem_cons h]
 rfl
theorem kM (idB:ByteArray→Bool) (rgB:ag→Bool):∀ (m:Nat) (e:ag) (s:Int),0≤s→s≤4096→0≤(aV idB rgB m e s).1∧(aV idB rgB m e s).1≤4096
 | 0,_,s,h0,h1=>⟨h0,h1⟩
 | m+1,e,s,h0,h1=>by
   have ih:=kM idB rgB m
   have fun1:∀ (l:List al) (seen:List ByteArray) (s:Int),0≤s→s≤4096→0≤(cF idB (aV idB rgB m) seen l s).1∧(cF idB (aV idB rgB m) seen l s).1≤4096:=by
    intro l
    induction l with
    | nil=>intro seen s h0 h1;exact ⟨h0,h1⟩
    | cons x r ihl =>
      intro seen s h0 h1
      simp only [cF]
      split
      ·exact ⟨h0,h1⟩
      ·split
       ·exact ih _ _ h0 h1
       ·exact ihl _ _ (ih _ _ h0 h1).1 (ih _ _ h0 h1).2
   have kid1:∀ (x:ag) (s:Int),0≤s→s≤4096→0≤(gN m (aV idB rgB m) x s).1∧(gN m (aV idB rgB m) x s).1≤4096:=by
    intro x s h0 h1
    unfold gN
    split
    ·split
     ·exact ⟨h0,h1⟩
     ·split
      ·exact ⟨h0,h1⟩
      ·exact ⟨by show 0≤s+1;omega,by show s+1≤4096;omega⟩
    ·exact ih _ _ h0 h1
   have kids1:∀ (l:List ag) (s:Int),0≤s→s≤4096→0≤(hZ m (aV idB rgB m) l s).1∧(hZ m (aV idB rgB m) l s).1≤4096:=by
    intro l
    induction l with
    | nil=>intro s h0 h1;exact ⟨h0,h1⟩
    | cons x r ihl =>
      intro s h0 h1
      simp only [hZ]
      split
      ·exact kid1 _ _ h0 h1
      ·exact ihl _ (kid1 _ _ h0 h1).1 (kid1 _ _ h0 h1).2
   simp only [aV]
   split
   ·exact ⟨h0,h1⟩
   split
   ·exact ⟨by show 0≤s+1;omega,by show s+1≤4096;omega⟩
   split
   ·exact ⟨by show 0≤s+1;omega,by show s+1≤4096;omega⟩
   split
   ·exact ⟨by show 0≤s+1;omega,by show s+1≤4096;omega⟩
   split
   ·exact ⟨by show 0≤s+1;omega,by show s+1≤4096;omega⟩
   split
   ·exact fun1 _ _ _ (by omega) (by omega)
   ·exact kids1 _ _ (fun1 _ _ _ (by omega) (by omega)).1 (fun1 _ _ _ (by omega) (by omega)).2
end Go.Proofs.YtiefeajappjnbaaGreatDoor

/- The small functions of the check of expressions, on both sides: what they give. -/
namespace Go.Proofs.YtiefeajappjnbaaGreatDoor
open Go.RowKit
theorem nt {op:Int} (h:1≤op∧op≤30):op=1∨op=2∨op=3∨op=4∨op=5∨op=6∨op=7∨op=8∨op=9∨op=10∨op=11∨op=12∨op=13∨op=14∨op=15∨op=16∨op=17∨op=18∨op=19∨op=20∨op=21∨op=22∨op=23∨op=24∨op=25∨op=26∨op=27∨op=28∨op=29∨op=30:=by omega
set_option maxRecDepth 100000 in
set_option maxHeartbeats 3200000 in
theorem vB (v:ar) (w:World) (B N:Nat) (cs:List Value) (hv:ar.At w B N v cs):Calls Tryz.prog 75 #[.agg cs.toArray] w (cq (bj v) w):=by
 obtain ⟨ya,la,va,yc,lc,vc,hh⟩:=hv.has
 clear hv
 have c0:=hh.kind
 have c1:=hh.bool
 have c2:=hh.neg
 have c3:=hh.digits
 have c4:=hh.exp
 have c5:=hh.tkind
 have c6:=hh.day
 have c7:=hh.nano
 have c8:=hh.offset
 have c9:=hh.text
 have c10:=hh.bytes
 have c11:=hh.list
 have c12:=hh.fields
 clear hh
 have E1:=il v.num
 have E2:=iO v.time
 have G1:=dw
 have G2:=dE
 have HO:=Hd (iA v)
 generalize bj v=ob at *
 generalize eb v.num ⟨false,⟨#[]⟩,0⟩=db at *
 generalize ed v.time ⟨0,0,0,0⟩=tb at *
 generalize v.bytes.length=n1 at *
 generalize v.list.length=n2 at *
 generalize v.fields.length=n3 at *
 go_enter Tryz.func75,Tryz.ntmps75
 go_wp2
 all_goals
  go_ret
  refine ⟨am (bz ?_),Below.box _ _⟩
  have hv:=HO.out
  clear HO E1 E2 G1 G2 c0 c1 c2 c3 c4 c5 c6 c7 c8 c9 c10 c11 c12
  go_light
  grind
set_option maxRecDepth 100000 in
set_option maxHeartbeats 3200000 in
theorem vA (v:ar) (w:World) (B N:Nat) (cs:List Value) (hv:ar.At w B N v cs):Calls Tryz.prog 78 #[.agg cs.toArray] w (cq (bj v) w):=by
 obtain ⟨ya,la,va,yc,lc,vc,hh⟩:=hv.has
 clear hv
 have c0:=hh.kind
 have c1:=hh.bool
 have c2:=hh.neg
 have c3:=hh.digits
 have c4:=hh.exp
 have c5:=hh.tkind
 have c6:=hh.day
 have c7:=hh.nano
 have c8:=hh.offset
 have c9:=hh.text
 have c10:=hh.bytes
 have c11:=hh.list
 have c12:=hh.fields
 clear hh
 have E1:=il v.num
 have E2:=iO v.time
 have G1:=dw
 have G2:=dE
 have HO:=Hd (iA v)
 generalize bj v=ob at *
 generalize eb v.num ⟨false,⟨#[]⟩,0⟩=db at *
 generalize ed v.time ⟨0,0,0,0⟩=tb at *
 generalize v.bytes.length=n1 at *
 generalize v.list.length=n2 at *
 generalize v.fields.length=n3 at *
 go_enter Tryz.func78,Tryz.ntmps78
 go_wp2
 all_goals
  go_ret
  refine ⟨am (bz ?_),Below.box _ _⟩
  have hv:=HO.out
  clear HO E1 E2 G1 G2 c0 c1 c2 c3 c4 c5 c6 c7 c8 c9 c10 c11 c12
  go_light
  grind
set_option maxHeartbeats 1600000 in
theorem C5 (v:ar) (w:World) (B N:Nat) (cs:List Value) (hv:ar.At w B N v cs):Calls Tryz.prog 145 #[.agg cs.toArray] w (cq (jo v) w):=by
 obtain ⟨ya,la,va,yc,lc,vc,hh⟩:=hv.has
 clear hv
 have c0:=hh.kind
 have c2:=hh.neg
 clear hh
 have HO:=Hd (show jo v=true↔(v.kind=0∨v.kind=1∨(v.kind=2∧v.num.neg=false)∨v.kind=4) from by unfold jo;rw [decide_eq_true_eq])
 generalize jo v=ob at *
 go_enter Tryz.func145,Tryz.ntmps145
 go_wp2
 all_goals
  go_ret
  refine ⟨am (bz ?_),Below.box _ _⟩
  have hv:=HO.out
  clear HO c0 c2
  go_light
  grind
set_option maxHeartbeats 1600000 in
theorem C4 (v:ar) (w:World) (B N:Nat) (cs:List Value) (hv:ar.At w B N v cs):Calls Tryz.prog 158 #[.agg cs.toArray] w (cq (jo v) w):=by
 obtain ⟨ya,la,va,yc,lc,vc,hh⟩:=hv.has
 clear hv
 have c0:=hh.kind
 have c2:=hh.neg
 clear hh
 have HO:=Hd (show jo v=true↔(v.kind=0∨v.kind=1∨(v.kind=2∧v.num.neg=false)∨v.kind=4) from by unfold jo;rw [decide_eq_true_eq])
 generalize jo v=ob at *
 go_enter Tryz.func158,Tryz.ntmps158
 go_wp2
 all_goals
  go_ret
  refine ⟨am (bz ?_),Below.box _ _⟩
  have hv:=HO.out
  clear HO c0 c2
  go_light
  grind
set_option maxRecDepth 100000 in
set_option maxHeartbeats 6400000 in
theorem ov (op:Int) (w:World) (h:1≤op∧op≤30):Calls Tryz.prog 148 #[.int .i64 op] w (fun e w'=>e=.returned (.bool (ft op))∧w'=w):=by
 rcases nt h with rfl | rfl | rfl | rfl | rfl | rfl | rfl | rfl | rfl | rfl | rfl | rfl | rfl | rfl | rfl | rfl | rfl | rfl | rfl | rfl | rfl | rfl | rfl | rfl | rfl | rfl | rfl | rfl | rfl | rfl
 all_goals
  clear h
  go_enter Tryz.func148,Tryz.ntmps148
  go_wp2
  all_goals
   go_ret
   exact ⟨rfl,rfl⟩
set_option maxRecDepth 100000 in
set_option maxHeartbeats 6400000 in
theorem zI (op:Int) (w:World) (h:1≤op∧op≤30):Calls Tryz.prog 156 #[.int .i64 op] w (fun e w'=>e=.returned (.bool (eG op))∧w'=w):=by
 rcases nt h with rfl | rfl | rfl | rfl | rfl | rfl | rfl | rfl | rfl | rfl | rfl | rfl | rfl | rfl | rfl | rfl | rfl | rfl | rfl | rfl | rfl | rfl | rfl | rfl | rfl | rfl | rfl | rfl | rfl | rfl
 all_goals
  clear h
  go_enter Tryz.func156,Tryz.ntmps156
  go_wp2
  all_goals
   go_ret
   exact ⟨rfl,rfl⟩
def Ce (op:Int):Int:=if bT op<0 then 65536 else (lS op:Int)
set_option maxRecDepth 100000 in
set_option maxHeartbeats 6400000 in
theorem CP (op:Int) (w:World) (h:1≤op∧op≤30):Calls Tryz.prog 155 #[.int .i64 op] w (fun e w'=>e=.returned (.tuple #[.int .i64 (bT op),.int .i64 (Ce op)])∧w'=w):=by
 rcases nt h with rfl | rfl | rfl | rfl | rfl | rfl | rfl | rfl | rfl | rfl | rfl | rfl | rfl | rfl | rfl | rfl | rfl | rfl | rfl | rfl | rfl | rfl | rfl | rfl | rfl | rfl | rfl | rfl | rfl | rfl
 all_goals
  clear h
  go_enter Tryz.func155,Tryz.ntmps155
  go_wp2
  all_goals
   go_ret2
   exact ⟨rfl,rfl⟩
end Go.Proofs.YtiefeajappjnbaaGreatDoor

/- The absent expression, operators' names, counts of arguments: both sides (printed by gensml.py). -/
namespace Go.Proofs.YtiefeajappjnbaaGreatDoor
open Go.RowKit
theorem aG {P:Program} {ops:Array Oper} {rest:List Oper} {op:Oper} {a:Act} {w:World} {Q:Exit→Act→World→Prop} (hw:Region.wanted op (yielded ops a.tmps)=true) (ty:TypeId) (x:Operand) (ho:op.op=.load ty x)
 (b o:Nat) (hx:a.eval x=.pointer (some ⟨b,o,none⟩)) (cs:List Value) (d:TypeDesc) (hc:w.rangeAt b o cs)
 (hu:P.underlying ty=some d) (hd:d.isRow=true) (hi:(P.info? ty).map (·.size)=some cs.length)
 (h:wpList P ops Q rest (a.put op.dst (.agg cs.toArray)) w):wpList P ops Q (op::rest) a w :=
 wpList_step fun K hK=>by rw [if_pos hw];exact wp_load_mid ty x ho b o hx cs d hc hu hd hi (hK _ _ h)
theorem ag.Has.valRange {w wr:World} {B N b o:Nat} {e:ag} {cs vs:List Value} {aa fa:Option Addr} {ac fc:Nat} (h:ag.Has w B N e cs aa fa ac fc vs) (hc:aj wr b o cs):aj wr b (o+2) vs:=fun j hj=>by
 have hl:vs.length=13:=h.atVal.len
 have hlen:=h.len
 have hj2:j+2<cs.length:=by omega
 have h1:=hc (j+2) hj2
 have h2:vs[j]?=cs[j+2]?:=by
  rw [← h.val,List.getElem?_take,if_pos (by omega),List.getElem?_drop,Nat.add_comm]
 rw [h2,← h1,show o+2+j=o+(j+2) by omega]
theorem qQ (e:ag):dX e=true↔(e.op=30∧e.name.toList=[]∧bj e.val=true∧(e.args.length:Int)=0∧(e.funcs.length:Int)=0):=by
 unfold dX
 rw [decide_eq_true_eq,aH]
 simp only [Int.natCast_eq_zero]
set_option maxRecDepth 100000 in
set_option maxHeartbeats 1600000 in
theorem yH (x:ag) (w:World) (B N:Nat) (cs:List Value) (hB:B≤w.heap.size) (he:ag.At w B N x cs):Calls Tryz.prog 27 #[.agg cs.toArray] w (cq (dX x) w):=by
 obtain ⟨aa,fa,ac,fc,vs,hh⟩:=he.has
 have H0:=Hd (show Below w.heap.size w (w.alloc (.cells cs.toArray 34)) from af w _)
 have hvr:=Hd (show (w.alloc (.cells cs.toArray 34)).rangeAt w.heap.size (0+2) vs from (hh.valRange (aA w cs 34)).range)
 have HV:=Hd (show ar.At (w.alloc (.cells cs.toArray 34)) B N x.val vs from hh.atVal.below (H0.out.mono hB))
 have hl:=Hd (show (Tryz.prog.info? 30).map (·.size)=some vs.length by rw [hh.atVal.len];exact bM)
 have hs0:=Hd (show w.heap.size<(w.alloc (.cells cs.toArray 34)).heap.size by rw [World.size_alloc];omega)
 have HX:=Hd (aA w cs 34)
 have HO:=Hd (qQ x)
 have c0:=hh.op
 have c1:=hh.name
 have c15:=hh.args
 have c16:=hh.funcs
 clear hh he
 generalize dX x=ob at *
 generalize x.args.length=n1 at *
 generalize x.funcs.length=n2 at *
 go_enter Tryz.func27,Tryz.ntmps27
 go_wp2_with (refine aG rfl 30 _ rfl w.heap.size (0+2) rfl vs _ hvr.out Tryz.underlying30 rfl hl.out ?_)
 all_goals first
  | (go_ret
     refine ⟨am (bz ?_),H0.out⟩
     have hv:=HO.out
     clear HO H0 hvr HV hl hs0 HX c0 c1 c15 c16
     go_light
     grind)
  | (refine (vB x.val _ B N vs HV.out).mono ?_
     rintro e w1 ⟨rfl,hb1⟩
     have H1:=Hd (ae H0.out hb1)
     have d15:=(HX.out.then hb1 hs0.out).get0 c15
     have d16:=(HX.out.then hb1 hs0.out).get0 c16
     clear hb1
     obtain ⟨z,hz⟩:∃ z,bj x.val=z:=⟨_,rfl⟩
     rw [hz] at HO ⊢
     clear hz
     cases z
     all_goals
      go_wp2_with fail
      all_goals
       go_ret
       refine ⟨am (bz ?_),H1.out⟩
       have hv:=HO.out
       clear HO H0 hvr HV hl hs0 HX c0 c1 c15 c16 d15 d16 H1
       go_light
       grind)
set_option maxRecDepth 100000 in
set_option maxHeartbeats 1600000 in
theorem yF (x:ag) (w:World) (B N:Nat) (cs:List Value) (hB:B≤w.heap.size) (he:ag.At w B N x cs):Calls Tryz.prog 31 #[.agg cs.toArray] w (cq (dX x) w):=by
 obtain ⟨aa,fa,ac,fc,vs,hh⟩:=he.has
 have H0:=Hd (show Below w.heap.size w (w.alloc (.cells cs.toArray 34)) from af w _)
 have hvr:=Hd (show (w.alloc (.cells cs.toArray 34)).rangeAt w.heap.size (0+2) vs from (hh.valRange (aA w cs 34)).range)
 have HV:=Hd (show ar.At (w.alloc (.cells cs.toArray 34)) B N x.val vs from hh.atVal.below (H0.out.mono hB))
 have hl:=Hd (show (Tryz.prog.info? 30).map (·.size)=some vs.length by rw [hh.atVal.len];exact bM)
 have hs0:=Hd (show w.heap.size<(w.alloc (.cells cs.toArray 34)).heap.size by rw [World.size_alloc];omega)
 have HX:=Hd (aA w cs 34)
 have HO:=Hd (qQ x)
 have c0:=hh.op
 have c1:=hh.name
 have c15:=hh.args
 have c16:=hh.funcs
 clear hh he
 generalize dX x=ob at *
 generalize x.args.length=n1 at *
 generalize x.funcs.length=n2 at *
 go_enter Tryz.func31,Tryz.ntmps31
 go_wp2_with (refine aG rfl 30 _ rfl w.heap.size (0+2) rfl vs _ hvr.out Tryz.underlying30 rfl hl.out ?_)
 all_goals first
  | (go_ret
     refine ⟨am (bz ?_),H0.out⟩
     have hv:=HO.out
     clear HO H0 hvr HV hl hs0 HX c0 c1 c15 c16
     go_light
     grind)
  | (refine (vA x.val _ B N vs HV.out).mono ?_
     rintro e w1 ⟨rfl,hb1⟩
     have H1:=Hd (ae H0.out hb1)
     have d15:=(HX.out.then hb1 hs0.out).get0 c15
     have d16:=(HX.out.then hb1 hs0.out).get0 c16
     clear hb1
     obtain ⟨z,hz⟩:∃ z,bj x.val=z:=⟨_,rfl⟩
     rw [hz] at HO ⊢
     clear hz
     cases z
     all_goals
      go_wp2_with fail
      all_goals
       go_ret
       refine ⟨am (bz ?_),H1.out⟩
       have hv:=HO.out
       clear HO H0 hvr HV hl hs0 HX c0 c1 c15 c16 d15 d16 H1
       go_light
       grind)
set_option maxHeartbeats 3200000 in
theorem ol (s:ByteArray) (w:World):Calls Tryz.prog 147 #[.int .i64 12,.string s] w (fun e w'=>e=.returned (.bool (eL 12 s.toList))∧w'=w):=by
 have HL:=Hd (show eL 12 s.toList=(pC.contains s.toList) from rfl)
 go_enter Tryz.func147,Tryz.ntmps147
 go_wp2
 all_goals
  go_ret
  refine ⟨am ?_,rfl⟩
  rw [HL.out]
  simp only [pC,List.contains_cons,List.contains_nil]
  first | (exfalso;simp_all;done) | (simp [*];done) | (simp_all;done) | (simp [*,Bool.or_assoc];done) | simp_all [Bool.or_assoc]
set_option maxHeartbeats 3200000 in
theorem oj (s:ByteArray) (w:World):Calls Tryz.prog 147 #[.int .i64 13,.string s] w (fun e w'=>e=.returned (.bool (eL 13 s.toList))∧w'=w):=by
 have HL:=Hd (show eL 13 s.toList=(qw.contains s.toList) from rfl)
 go_enter Tryz.func147,Tryz.ntmps147
 go_wp2
 all_goals
  go_ret
  refine ⟨am ?_,rfl⟩
  rw [HL.out]
  simp only [qw,List.contains_cons,List.contains_nil]
  first | (exfalso;simp_all;done) | (simp [*];done) | (simp_all;done) | (simp [*,Bool.or_assoc];done) | simp_all [Bool.or_assoc]
set_option maxHeartbeats 3200000 in
theorem oh (s:ByteArray) (w:World):Calls Tryz.prog 157 #[.int .i64 12,.string s] w (fun e w'=>e=.returned (.bool (eL 12 s.toList))∧w'=w):=by
 have HL:=Hd (show eL 12 s.toList=(pC.contains s.toList) from rfl)
 go_enter Tryz.func157,Tryz.ntmps157
 go_wp2
 all_goals
  go_ret
  refine ⟨am ?_,rfl⟩
  rw [HL.out]
  simp only [pC,List.contains_cons,List.contains_nil]
  first | (exfalso;simp_all;done) | (simp [*];done) | (simp_all;done) | (simp [*,Bool.or_assoc];done) | simp_all [Bool.or_assoc]
set_option maxHeartbeats 3200000 in
theorem og (s:ByteArray) (w:World):Calls Tryz.prog 157 #[.int .i64 13,.string s] w (fun e w'=>e=.returned (.bool (eL 13 s.toList))∧w'=w):=by
 have HL:=Hd (show eL 13 s.toList=(qw.contains s.toList) from rfl)
 go_enter Tryz.func157,Tryz.ntmps157
 go_wp2
 all_goals
  go_ret
  refine ⟨am ?_,rfl⟩
  rw [HL.out]
  simp only [qw,List.contains_cons,List.contains_nil]
  first | (exfalso;simp_all;done) | (simp [*];done) | (simp_all;done) | (simp [*,Bool.or_assoc];done) | simp_all [Bool.or_assoc]
def aQ (op:Int) (n:Nat):Bool:=decide (1≤op∧op≤29∧(0≤bT op→(n:Int)=bT op)∧(op=21→n≤8)∧(op=25→n % 2=0))
theorem Dx (n:Nat):aQ 1 n=true↔(n:Int)=0:=by
 unfold aQ
 rw [decide_eq_true_eq]
 simp only [bT]
 simp
 try omega
theorem Dw (n:Nat):aQ 2 n=true↔(n:Int)=0:=by
 unfold aQ
 rw [decide_eq_true_eq]
 simp only [bT]
 simp
 try omega
theorem Dv (n:Nat):aQ 3 n=true↔(n:Int)=0:=by
 unfold aQ
 rw [decide_eq_true_eq]
 simp only [bT]
 simp
 try omega
theorem Du (n:Nat):aQ 4 n=true↔(n:Int)=0:=by
 unfold aQ
 rw [decide_eq_true_eq]
 simp only [bT]
 simp
 try omega
theorem Dt (n:Nat):aQ 5 n=true↔(n:Int)=1:=by
 unfold aQ
 rw [decide_eq_true_eq]
 simp only [bT]
 simp
 try omega
theorem Ds (n:Nat):aQ 6 n=true↔(n:Int)=2:=by
 unfold aQ
 rw [decide_eq_true_eq]
 simp only [bT]
 simp
 try omega
theorem Dr (n:Nat):aQ 7 n=true↔(n:Int)=3:=by
 unfold aQ
 rw [decide_eq_true_eq]
 simp only [bT]
 simp
 try omega
theorem Dq (n:Nat):aQ 8 n=true↔(n:Int)=1:=by
 unfold aQ
 rw [decide_eq_true_eq]
 simp only [bT]
 simp
 try omega
theorem Dp (n:Nat):aQ 9 n=true↔(n:Int)=2:=by
 unfold aQ
 rw [decide_eq_true_eq]
 simp only [bT]
 simp
 try omega
theorem CM (n:Nat):aQ 10 n=true↔(n:Int)=2:=by
 unfold aQ
 rw [decide_eq_true_eq]
 simp only [bT]
 simp
 try omega
theorem CL (n:Nat):aQ 11 n=true↔(n:Int)=1:=by
 unfold aQ
 rw [decide_eq_true_eq]
 simp only [bT]
 simp
 try omega
theorem CK (n:Nat):aQ 12 n=true↔(n:Int)=2:=by
 unfold aQ
 rw [decide_eq_true_eq]
 simp only [bT]
 simp
 try omega
theorem CJ (n:Nat):aQ 13 n=true↔(n:Int)=2:=by
 unfold aQ
 rw [decide_eq_true_eq]
 simp only [bT]
 simp
 try omega
theorem CI (n:Nat):aQ 14 n=true↔(n:Int)=2:=by
 unfold aQ
 rw [decide_eq_true_eq]
 simp only [bT]
 simp
 try omega
theorem CH (n:Nat):aQ 15 n=true↔(n:Int)=2:=by
 unfold aQ
 rw [decide_eq_true_eq]
 simp only [bT]
 simp
 try omega
theorem CG (n:Nat):aQ 16 n=true↔(n:Int)=2:=by
 unfold aQ
 rw [decide_eq_true_eq]
 simp only [bT]
 simp
 try omega
theorem CF (n:Nat):aQ 17 n=true↔(n:Int)=2:=by
 unfold aQ
 rw [decide_eq_true_eq]
 simp only [bT]
 simp
 try omega
theorem CE (n:Nat):aQ 18 n=true↔(n:Int)=3:=by
 unfold aQ
 rw [decide_eq_true_eq]
 simp only [bT]
 simp
 try omega
theorem CD (n:Nat):aQ 19 n=true↔(n:Int)=3:=by
 unfold aQ
 rw [decide_eq_true_eq]
 simp only [bT]
 simp
 try omega
theorem CC (n:Nat):aQ 20 n=true↔(n:Int)=4:=by
 unfold aQ
 rw [decide_eq_true_eq]
 simp only [bT]
 simp
 try omega
theorem yr (n:Nat):aQ 21 n=true↔(n:Int)≤8:=by
 unfold aQ
 rw [decide_eq_true_eq]
 simp only [bT]
 simp
 try omega
theorem CB (n:Nat):aQ 22 n=true↔(n:Int)=2:=by
 unfold aQ
 rw [decide_eq_true_eq]
 simp only [bT]
 simp
 try omega
theorem CA (n:Nat):aQ 23 n=true↔(n:Int)=1:=by
 unfold aQ
 rw [decide_eq_true_eq]
 simp only [bT]
 simp
 try omega
theorem Cz (n:Nat):aQ 24 n=true↔(n:Int)=1:=by
 unfold aQ
 rw [decide_eq_true_eq]
 simp only [bT]
 simp
 try omega
theorem yq (n:Nat):aQ 25 n=true↔(n:Int) % 2=0:=by
 unfold aQ
 rw [decide_eq_true_eq]
 simp only [bT]
 simp
 try omega
theorem Cy (n:Nat):aQ 26 n=true↔(n:Int)=1:=by
 unfold aQ
 rw [decide_eq_true_eq]
 simp only [bT]
 simp
 try omega
theorem Cx (n:Nat):aQ 27 n=true↔(n:Int)=0:=by
 unfold aQ
 rw [decide_eq_true_eq]
 simp only [bT]
 simp
 try omega
theorem Cw (n:Nat):aQ 28 n=true↔(n:Int)=2:=by
 unfold aQ
 rw [decide_eq_true_eq]
 simp only [bT]
 simp
 try omega
theorem Cv (n:Nat):aQ 29 n=true↔(n:Int)=2:=by
 unfold aQ
 rw [decide_eq_true_eq]
 simp only [bT]
 simp
 try omega
theorem Cu (n:Nat):aQ 30 n=true↔False:=by
 unfold aQ
 rw [decide_eq_true_eq]
 simp only [bT]
 simp
 try omega
set_option maxRecDepth 100000 in
set_option maxHeartbeats 6400000 in
theorem yj (op:Int) (n:Nat) (hn:n≤1099511627776) (w:World) (h:1≤op∧op≤30):Calls Tryz.prog 144 #[.int .i64 op,.int .i64 (n:Int)] w (fun e w'=>e=.returned (.bool (aQ op n))∧w'=w):=by
 rcases nt h with rfl | rfl | rfl | rfl | rfl | rfl | rfl | rfl | rfl | rfl | rfl | rfl | rfl | rfl | rfl | rfl | rfl | rfl | rfl | rfl | rfl | rfl | rfl | rfl | rfl | rfl | rfl | rfl | rfl | rfl
 case' inl=>have HC:=Hd (Dx n)
 case' inr.inl=>have HC:=Hd (Dw n)
 case' inr.inr.inl=>have HC:=Hd (Dv n)
 case' inr.inr.inr.inl=>have HC:=Hd (Du n)
 case' inr.inr.inr.inr.inl=>have HC:=Hd (Dt n)
 case' inr.inr.inr.inr.inr.inl=>have HC:=Hd (Ds n)
 case' inr.inr.inr.inr.inr.inr.inl=>have HC:=Hd (Dr n)
 case' inr.inr.inr.inr.inr.inr.inr.inl=>have HC:=Hd (Dq n)
 case' inr.inr.inr.inr.inr.inr.inr.inr.inl=>have HC:=Hd (Dp n)
 case' inr.inr.inr.inr.inr.inr.inr.inr.inr.inl=>have HC:=Hd (CM n)
 case' inr.inr.inr.inr.inr.inr.inr.inr.inr.inr.inl=>have HC:=Hd (CL n)
 case' inr.inr.inr.inr.inr.inr.inr.inr.inr.inr.inr.inl=>have HC:=Hd (CK n)
 case' inr.inr.inr.inr.inr.inr.inr.inr.inr.inr.inr.inr.inl=>have HC:=Hd (CJ n)
 case' inr.inr.inr.inr.inr.inr.inr.inr.inr.inr.inr.inr.inr.inl=>have HC:=Hd (CI n)
 case' inr.inr.inr.inr.inr.inr.inr.inr.inr.inr.inr.inr.inr.inr.inl=>have HC:=Hd (CH n)
 case' inr.inr.inr.inr.inr.inr.inr.inr.inr.inr.inr.inr.inr.inr.inr.inl=>have HC:=Hd (CG n)
 case' inr.inr.inr.inr.inr.inr.inr.inr.inr.inr.inr.inr.inr.inr.inr.inr.inl=>have HC:=Hd (CF n)
 case' inr.inr.inr.inr.inr.inr.inr.inr.inr.inr.inr.inr.inr.inr.inr.inr.inr.inl=>have HC:=Hd (CE n)
 case' inr.inr.inr.inr.inr.inr.inr.inr.inr.inr.inr.inr.inr.inr.inr.inr.inr.inr.inl=>have HC:=Hd (CD n)
 case' inr.inr.inr.inr.inr.inr.inr.inr.inr.inr.inr.inr.inr.inr.inr.inr.inr.inr.inr.inl=>have HC:=Hd (CC n)
 case' inr.inr.inr.inr.inr.inr.inr.inr.inr.inr.inr.inr.inr.inr.inr.inr.inr.inr.inr.inr.inl=>have HC:=Hd (yr n)
 case' inr.inr.inr.inr.inr.inr.inr.inr.inr.inr.inr.inr.inr.inr.inr.inr.inr.inr.inr.inr.inr.inl=>have HC:=Hd (CB n)
 case' inr.inr.inr.inr.inr.inr.inr.inr.inr.inr.inr.inr.inr.inr.inr.inr.inr.inr.inr.inr.inr.inr.inl=>have HC:=Hd (CA n)
 case' inr.inr.inr.inr.inr.inr.inr.inr.inr.inr.inr.inr.inr.inr.inr.inr.inr.inr.inr.inr.inr.inr.inr.inl=>have HC:=Hd (Cz n)
 case' inr.inr.inr.inr.inr.inr.inr.inr.inr.inr.inr.inr.inr.inr.inr.inr.inr.inr.inr.inr.inr.inr.inr.inr.inl=>have HC:=Hd (yq n)
 case' inr.inr.inr.inr.inr.inr.inr.inr.inr.inr.inr.inr.inr.inr.inr.inr.inr.inr.inr.inr.inr.inr.inr.inr.inr.inl=>have HC:=Hd (Cy n)
 case' inr.inr.inr.inr.inr.inr.inr.inr.inr.inr.inr.inr.inr.inr.inr.inr.inr.inr.inr.inr.inr.inr.inr.inr.inr.inr.inl=>have HC:=Hd (Cx n)
 case' inr.inr.inr.inr.inr.inr.inr.inr.inr.inr.inr.inr.inr.inr.inr.inr.inr.inr.inr.inr.inr.inr.inr.inr.inr.inr.inr.inl=>have HC:=Hd (Cw n)
 case' inr.inr.inr.inr.inr.inr.inr.inr.inr.inr.inr.inr.inr.inr.inr.inr.inr.inr.inr.inr.inr.inr.inr.inr.inr.inr.inr.inr.inl=>have HC:=Hd (Cv n)
 case' inr.inr.inr.inr.inr.inr.inr.inr.inr.inr.inr.inr.inr.inr.inr.inr.inr.inr.inr.inr.inr.inr.inr.inr.inr.inr.inr.inr.inr=>have HC:=Hd (Cu n)
 all_goals
  clear h
  go_enter Tryz.func144,Tryz.ntmps144
  go_wp2
  all_goals
   go_ret
   refine ⟨am (bz ?_),rfl⟩
   rw [HC.out]
   first | (simp;done) | (simp;omega)
set_option maxRecDepth 100000 in
theorem vg (op:Int) (n:Nat) (w:World) (h:¬ (1≤op∧op≤30)):Calls Tryz.prog 144 #[.int .i64 op,.int .i64 (n:Int)] w (fun e w'=>e=.returned (.bool false)∧w'=w):=by
 have e1:(op==1)=false:=by simp;omega
 have e2:(op==2)=false:=by simp;omega
 have e3:(op==3)=false:=by simp;omega
 have e4:(op==4)=false:=by simp;omega
 have e5:(op==5)=false:=by simp;omega
 have e6:(op==6)=false:=by simp;omega
 have e7:(op==7)=false:=by simp;omega
 have e8:(op==8)=false:=by simp;omega
 have e9:(op==9)=false:=by simp;omega
 have e10:(op==10)=false:=by simp;omega
 have e11:(op==11)=false:=by simp;omega
 have e12:(op==12)=false:=by simp;omega
 have e13:(op==13)=false:=by simp;omega
 have e14:(op==14)=false:=by simp;omega
 have e15:(op==15)=false:=by simp;omega
 have e16:(op==16)=false:=by simp;omega
 have e17:(op==17)=false:=by simp;omega
 have e18:(op==18)=false:=by simp;omega
 have e19:(op==19)=false:=by simp;omega
 have e20:(op==20)=false:=by simp;omega
 have e21:(op==21)=false:=by simp;omega
 have e22:(op==22)=false:=by simp;omega
 have e23:(op==23)=false:=by simp;omega
 have e24:(op==24)=false:=by simp;omega
 have e25:(op==25)=false:=by simp;omega
 have e26:(op==26)=false:=by simp;omega
 have e27:(op==27)=false:=by simp;omega
 have e28:(op==28)=false:=by simp;omega
 have e29:(op==29)=false:=by simp;omega
 clear h
 go_enter Tryz.func144,Tryz.ntmps144
 go_wp2_with fail
 go_ret
 exact ⟨rfl,rfl⟩
theorem tv (op:Int) (n:Nat) (hn:n≤1099511627776) (w:World):Calls Tryz.prog 144 #[.int .i64 op,.int .i64 (n:Int)] w (fun e w'=>e=.returned (.bool (aQ op n))∧w'=w):=by
 by_cases h:1≤op∧op≤30
 ·exact yj op n hn w h
 ·have hf:aQ op n=false:=by unfold aQ;rw [decide_eq_false_iff_not];omega
  rw [hf]
  exact vg op n w h
def uq (op:Int) (i:Nat):Bool:=decide ((op=7∧1≤(i:Int))∨(op=17∧(i:Int)=1)∨(op=18∧(i:Int)=2)∨(op=20∧(i:Int)=3)∨op=24)
set_option maxHeartbeats 1600000 in
theorem rg (op:Int) (i:Nat) (w:World):Calls Tryz.prog 146 #[.int .i64 op,.int .i64 (i:Int)] w (fun e w'=>e=.returned (.bool (uq op i))∧w'=w):=by
 have HO:=Hd (show uq op i=true↔_ from decide_eq_true_iff)
 generalize uq op i=ob at *
 go_enter Tryz.func146,Tryz.ntmps146
 go_wp2
 all_goals
  go_ret
  refine ⟨am (bz ?_),rfl⟩
  rw [HO.out]
  clear HO
  first | (simp;done) | (simp;omega) | grind
end Go.Proofs.YtiefeajappjnbaaGreatDoor
