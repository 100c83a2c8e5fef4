/- What stands in scope, and what the check of a program says of calls, variables and labels: plain functions. No program here. -/
import Derived.Test.YtiefeajappjnbaaGreatDoorGV
import Derived.Test.YtiefeajappjnbaaGreatDoorGA
import Derived.StillTailTactics
import Derived.Test.YtiefeajappjnbaaGreatDoorShelf
namespace Go.Proofs.YtiefeajappjnbaaGreatDoor
open Go.RowKit
def gsF (l:List al):List (ByteArray×Int):=l.map fun f=>(f.name,(f.params.length:Int))
theorem p6 (l:List al) {k:Nat} (h:k<l.length):gsF (l.take (k+1))=gsF (l.take k)++[(l[k].name,(l[k].params.length:Int))]:=by
 unfold gsF
 rw [← List.take_append_getElem h,List.map_append]
 rfl
def pgs (l:List aZ):List (ByteArray×Int):=(l.filter fun p=>!p.value).map fun p=>(p.name,0)
def ScD.push (d:ScD) (p:aZ):ScD:=if p.value then ⟨d.vs++[p.name],d.ls,d.gs⟩ else ⟨d.vs,d.ls,d.gs++[(p.name,0)]⟩
def ScD.par (d:ScD) (l:List aZ):ScD:=⟨d.vs++ni l,d.ls,d.gs++pgs l⟩
theorem ScD.par_step (d:ScD) {l:List aZ} {k:Nat} (h:k<l.length):d.par (l.take (k+1))=(d.par (l.take k)).push l[k]:=by
 unfold ScD.par ScD.push
 rw [rd l h]
 have hg:pgs (l.take (k+1))=pgs (l.take k)++(if l[k].value then [] else [(l[k].name,0)]):=by
  unfold pgs
  rw [← List.take_append_getElem h,List.filter_append,List.map_append]
  congr 1
  cases hv:l[k].value<;>simp [hv]
 rw [hg]
 cases hv:l[k].value<;>simp
def ScD.fns (d:ScD) (l:List al):ScD:=⟨d.vs,d.ls,d.gs++gsF l⟩
def gO (op:Int) (nm:ByteArray):List ByteArray:=if op=26 then [nm] else []
theorem sY {op:Int} {nm:ByteArray} (h:op≠26):gO op nm=[]:=by unfold gO;rw [if_neg h]
def ScD.inn (d:ScD) (op:Int) (nm:ByteArray) (i:Nat):ScD:=⟨d.vs++uE op nm i,d.ls++gO op nm,d.gs⟩
def ScD.wit (d:ScD) (x:ag) (i:Nat):ScD:=if x.op=23 then d.fns x.funcs else d.inn x.op x.name i
theorem ScD.wit_def (d:ScD) {x:ag} {i:Nat} (h:x.op=23):d.wit x i=d.fns x.funcs:=by unfold ScD.wit;rw [if_pos h]
theorem ScD.wit_no (d:ScD) {x:ag} {i:Nat} (h:x.op≠23):d.wit x i=d.inn x.op x.name i:=by unfold ScD.wit;rw [if_neg h]
theorem ScD.fns_nil (d:ScD):d.fns []=d:=by unfold ScD.fns gsF;simp
theorem ScD.wit_inn (d:ScD) {x:ag} (i:Nat) (h:x.op≠23→x.funcs=[]):d.wit x i=(d.fns x.funcs).inn x.op x.name i:=by
 by_cases h23:x.op=23
 ·rw [d.wit_def h23]
  unfold ScD.inn
  rw [h23]
  simp [uE,gO]
 ·rw [d.wit_no h23,h h23,ScD.fns_nil]
def ci (gs:List (ByteArray×Int)) (s:ByteArray):Int:=match gs.reverse.find? (fun g=>g.1.toList==s.toList) with | some g=>g.2 | none=>-1
theorem mg (gs:List (ByteArray×Int)) (s:ByteArray) {k:Nat} (h:k<gs.length):ci (gs.take (k+1)) s=if gs[k].1.toList==s.toList then gs[k].2 else ci (gs.take k) s:=by
 unfold ci
 rw [← List.take_append_getElem h,List.reverse_append,List.reverse_singleton,List.singleton_append,List.find?_cons]
 cases gs[k].1.toList==s.toList<;>rfl
theorem uQ {gs:List (ByteArray×Int)} {s:ByteArray} (h:ci gs s≠-1):∃ g∈gs,g.1.toList=s.toList∧ci gs s=g.2:=by
 unfold ci at h ⊢
 split at h
 ·rename_i g hg
  have h1:=List.find?_some hg
  have h2:=List.mem_of_find?_eq_some hg
  exact ⟨g,List.mem_reverse.1 h2,by simpa using h1,rfl⟩
 ·exact absurd rfl h
def arE (k:Int) (n:Nat):Int:=if k=n then 0 else 17
def mS (R:ByteArray→Int) (x:ag) (d:ScD):Int:=if 0≤ci d.gs x.name then arE (ci d.gs x.name) x.args.length else if R x.name<0 then 16 else arE (R x.name) x.args.length
def fo (R:ByteArray→Int) (x:ag) (d:ScD):Int :=
 if x.op=21 then mS R x d else if x.op=4 then (if iV d.vs x.name then 0 else 16) else if x.op=27 then (if iV d.ls x.name then 0 else 16) else 0
theorem sK {R:ByteArray→Int} {x:ag} {d:ScD} (h:x.op=21):fo R x d=mS R x d:=by unfold fo;rw [if_pos h]
theorem wv {R:ByteArray→Int} {x:ag} {d:ScD} (h:x.op=4):fo R x d=if iV d.vs x.name then 0 else 16:=by unfold fo;rw [if_neg (by omega),if_pos h]
theorem sJ {R:ByteArray→Int} {x:ag} {d:ScD} (h:x.op=27):fo R x d=if iV d.ls x.name then 0 else 16:=by unfold fo;rw [if_neg (by omega),if_neg (by omega),if_pos h]
theorem sI {R:ByteArray→Int} {x:ag} {d:ScD} (h1:x.op≠21) (h2:x.op≠4) (h3:x.op≠27):fo R x d=0:=by unfold fo;rw [if_neg h1,if_neg h2,if_neg h3]
theorem j8 {R:ByteArray→Int} {x:ag} {d:ScD} {n:Int} (h:ci d.gs x.name=n) (h0:0≤n):mS R x d=arE n x.args.length:=by unfold mS;rw [h,if_pos h0]
theorem tL {R:ByteArray→Int} {x:ag} {d:ScD} (h:ci d.gs x.name=-1) (hr:R x.name=-1):mS R x d=16:=by unfold mS;rw [h,hr];rfl
theorem iQ {R:ByteArray→Int} {x:ag} {d:ScD} {n:Int} (h:ci d.gs x.name=-1) (hr:R x.name=n) (h0:0≤n):mS R x d=arE n x.args.length:=by unfold mS;rw [h,hr,if_neg (by omega),if_neg (by omega)]
theorem ka {k:Int} {n:Nat} (h:k=n):arE k n=0:=by unfold arE;rw [if_pos h]
theorem iS {k:Int} {n:Nat} (h:k≠n):arE k n=17:=by unfold arE;rw [if_neg h]
def kA:List Int→Int
 | []=>0
 | e::r=>if e≠0 then e else kA r
def fg (V:ag→ScD→Int) (l:List al) (d:ScD) (k:Nat):Int:=kA ((l.drop k).map fun f=>V f.body (d.par f.params))
def fN (V:ag→ScD→Int) (x:ag) (d:ScD) (k:Nat):Int:=kA (((List.range x.args.length).drop k).map fun i=>V (x.args.getD i default) (d.inn x.op x.name i))
def fh (R:ByteArray→Int) (V:ag→ScD→Int) (x:ag) (d:ScD):Int :=
 if fo R x d≠0 then fo R x d else if fg V x.funcs (d.fns x.funcs) 0≠0 then fg V x.funcs (d.fns x.funcs) 0 else fN V x (d.fns x.funcs) 0
def gT (R:ByteArray→Int):Nat→ag→ScD→Int
 | 0,x,d=>fo R x d
 | m+1,x,d=>fh R (gT R m) x d
theorem oY (V:ag→ScD→Int) (l:List al) (d:ScD):fg V l d l.length=0:=by unfold fg;rw [List.drop_length];rfl
theorem mV (V:ag→ScD→Int) {l:List al} (d:ScD) {k:Nat} (h:k<l.length):fg V l d k=if V l[k].body (d.par l[k].params)≠0 then V l[k].body (d.par l[k].params) else fg V l d (k+1):=by
 unfold fg
 rw [List.drop_eq_getElem_cons h]
 rfl
theorem oZ (V:ag→ScD→Int) (x:ag) (d:ScD):fN V x d x.args.length=0:=by
 unfold fN
 rw [List.drop_eq_nil_of_le (by simp)]
 rfl
theorem mW (V:ag→ScD→Int) {x:ag} (d:ScD) {k:Nat} (h:k<x.args.length):fN V x d k=if V x.args[k] (d.inn x.op x.name k)≠0 then V x.args[k] (d.inn x.op x.name k) else fN V x d (k+1):=by
 unfold fN
 rw [List.drop_eq_getElem_cons (by simpa using h)]
 simp only [List.getElem_range,List.map_cons,kA,List.getD_eq_getElem?_getD,List.getElem?_eq_getElem h,Option.getD_some]
end Go.Proofs.YtiefeajappjnbaaGreatDoor

/- The reference's scopes: functions, params, within. -/
namespace Go.Proofs.YtiefeajappjnbaaGreatDoor
open Go.RowKit
theorem bW.setRow {u:World} {lo B:Nat} {l:List ByteArray} {a:Option Addr} (h:bW u lo B l a) {q:Nat} {x:Option Addr} {n c:Nat} (hq:u.cell? ⟨q,0,none⟩=some (.slice x n c)) (ds:Array Value):bW (u.setRow q ds) lo B l a:=by
 rcases h with h | ⟨b,h1,h2,h3,h4⟩
 ·exact .inl h
 ·cases hl:l with
  | nil=>exact .inl rfl
  | cons y r =>
    have h0:=h4 0 y (by rw [hl];rfl)
    have hb:b≠q:=fun e=>by
     subst e
     rw [hq] at h0
     cases h0
    rw [← hl]
    refine .inr ⟨b,h1,h2,h3,fun j z hz=>?_⟩
    rw [← h4 j z hz]
    simp only [World.cell?]
    rw [setRow_other _ _ _ _ (by omega)]
theorem co.setRow {u:World} {lo B:Nat} {l:List (ByteArray×Int)} {a:Option Addr} (h:co u lo B l a) {q:Nat} {x:Option Addr} {n c:Nat} (hq:u.cell? ⟨q,0,none⟩=some (.slice x n c)) (ds:Array Value):co (u.setRow q ds) lo B l a:=by
 rcases h with h | ⟨b,h1,h2,h3,h4⟩
 ·exact .inl h
 ·cases hl:l with
  | nil=>exact .inl rfl
  | cons y r =>
    have h0:=h4 0 (.string y.1) (by rw [hl];rfl)
    have hb:b≠q:=fun e=>by
     subst e
     rw [hq] at h0
     cases h0
    rw [← hl]
    refine .inr ⟨b,h1,h2,h3,fun j z hz=>?_⟩
    rw [← h4 j z hz]
    simp only [World.cell?]
    rw [setRow_other _ _ _ _ (by omega)]
theorem ScD.At.setRow {u:World} {lo B C:Nat} {d:ScD} {es:List Value} (h:ScD.At u lo B C d es) {q:Nat} {x:Option Addr} {n c:Nat} (hq:u.cell? ⟨q,0,none⟩=some (.slice x n c)) (ds:Array Value):ScD.At (u.setRow q ds) lo B C d es:=by
 obtain ⟨va,la,ga,vc,lc,gc,h0,h1,h2,h3,h4⟩:=h
 exact ⟨va,la,ga,vc,lc,gc,h0,h1.setRow hq ds,h2.setRow hq ds,h3.setRow hq ds,h4⟩
theorem ScD.At.cell0 {u:World} {lo B C:Nat} {d:ScD} {es:List Value} (h:ScD.At u lo B C d es):∃ x n c,es[0]?=some (.slice x n c):=by
 obtain ⟨va,la,ga,vc,lc,gc,rfl,_⟩:=h
 exact ⟨_,_,_,rfl⟩
theorem ScD.At.ones {u:World} {lo B C:Nat} {d:ScD} {es:List Value} (h:ScD.At u lo B C d es):es.toArray.all (·.oneCell')=true:=by
 obtain ⟨va,la,ga,vc,lc,gc,rfl,_⟩:=h
 exact uv ..
structure eD (w u:World) (cs zs:List Value) (t:TypeId):Prop where
 box:u.heap[w.heap.size]?=some (.cells cs.toArray t (0,0))
 out:u.heap[w.heap.size+1]?=some (.cells zs.toArray t (0,0))
 low:Below w.heap.size w u
 size:w.heap.size+2≤u.heap.size
theorem eD.start (w:World) (cs zs:List Value) (t:TypeId):eD w ((w.alloc (.cells cs.toArray t)).alloc (.cells zs.toArray t)) cs zs t:=by
 have hB:=iz.start w cs zs t t
 exact ⟨(heap_alloc_old _ _ (by rw [World.size_alloc];omega)).trans (heap_alloc_new w _),hB.out,hB.low,hB.size⟩
theorem eD.below {w u u':World} {cs zs:List Value} {t:TypeId} (h:eD w u cs zs t) (hb:Below u.heap.size u u'):eD w u' cs zs t :=
 ⟨(hb.block _ (by have:=h.size;omega)).trans h.box,(hb.block _ (by have:=h.size;omega)).trans h.out,ae h.low hb,Nat.le_trans h.size hb.size⟩
theorem eD.set {w u:World} {cs zs:List Value} {t:TypeId} (h:eD w u cs zs t) (ds:List Value):eD w (u.setRow w.heap.size ds.toArray) ds zs t :=
 ⟨setRow_heap _ _ _ _ _ _ h.box,(setRow_other _ _ _ _ (by omega)).trans h.out,below_setRow h.low (Nat.le_refl _) _,by have:=h.size;simpa using this⟩
theorem eD.cell {w u:World} {cs zs:List Value} {t:TypeId} (h:eD w u cs zs t) {j:Nat} {v:Value} (hv:cs[j]?=some v):u.cell? ⟨w.heap.size,j,none⟩=some v:=by
 rw [cell_of_row u w.heap.size j _ _ _ h.box];simpa using hv
theorem eD.range {w u:World} {cs zs:List Value} {t:TypeId} (h:eD w u cs zs t):u.rangeAt w.heap.size 0 cs:=fun j v hv=>by rw [Nat.zero_add];exact h.cell hv
theorem jC {P:Program} {ops:Array Oper} {w:World} {Q:Act→Prop} {a:Act} {o:Oper} {rest:List Oper} (hg:o.guard=none) (ty:TypeId) (x:Operand) (ho:o.op=.load ty x) (b off:Nat) (hx:a.eval x=.pointer (some ⟨b,off,none⟩))
 (cs:List Value) (d:TypeDesc) (hc:w.rangeAt b off cs) (hu:P.underlying ty=some d) (hd:d.isRow=true) (hi:(P.info? ty).map (·.size)=some cs.length) (h:wpStill P ops w Q rest (a.put o.dst (.agg cs.toArray))):wpStill P ops w Q (o::rest) a:=by
 refine wpStill_step fun K hK=>?_
 have hw:Region.wanted o (yielded ops a.tmps)=true:=by unfold Region.wanted;rw [hg]
 rw [if_pos hw]
 unfold Oper.still execOp
 simp only [ho,hx,Instr.loadAt,Instr.sureAddr,Sem.run_bind,Sem.run_pure,Result.andThen_ok,run_loadVar_mid w b off ty cs d hc hu hd hi]
 exact ⟨rfl,hK _ h⟩
set_option maxRecDepth 100000 in
set_option maxHeartbeats 3200000 in
theorem ia (l:List al) (a:Option Addr) (c:Nat) (d:ScD) (cs:List Value) (w:World) (lo B C N:Nat) (hC:C≤536870912) (hN:N≤536870912) (hl:l.length≤N) (hB:B≤w.heap.size) (hlo:lo≤w.heap.size) (h:ScD.At w lo B C d cs) (hA:av w B N l a) :
 Calls Tryz.prog 128 #[.agg cs.toArray,.slice a l.length c] w (ScR lo (C+l.length) ⟨d.vs,d.ls,d.gs++gsF l⟩ w):=by
 have HA:=Hd hA
 have HS:=Hd (h.mono (B':=w.heap.size) (K':=C) hB (Nat.le_refl _))
 have hlen:=h.len
 have hsz:=Hd (show (Tryz.prog.info? 134).map (·.size)=some cs.length by rw [hlen];kernel_rfl)
 have B0:=Hd (eD.start w cs cn 134)
 clear hA h hlen
 go_enter Tryz.func128,Tryz.ntmps128
 go_wp2_with fail
 go_simp
 go_loopw [5] (fun i wr=>∃ k:Nat,k≤l.length∧i=.int .i64 k∧Hid (∃ es,eD w wr es cn 134∧ScD.At wr lo wr.heap.size (C+k) ⟨d.vs,d.ls,d.gs++gsF (l.take k)⟩ es)) (fun i _=>l.length-(intOf i).toNat)
 case atStart =>
  refine ⟨0,by omega,rfl,Hd ⟨cs,B0.out,?_⟩⟩
  have h1:=(HS.out.keep (a7.of_below B0.out.low)).mono (K':=C+0) (show w.heap.size≤_ from B0.out.low.size) (by omega)
  have e:d.gs++gsF (l.take 0)=d.gs:=by simp [gsF]
  rw [e]
  exact h1
 case round =>
  obtain ⟨w1,rfl⟩:∃ w1,w1=wr:=⟨wr,rfl⟩
  obtain ⟨k,hk,rfl,HR⟩:=hrel
  obtain ⟨es,hb1,hs1⟩:=HR.out
  have B1:=Hd hb1
  have S1:=Hd hs1
  have hesz:=Hd (show (Tryz.prog.info? 134).map (·.size)=some es.length by rw [hs1.len];kernel_rfl)
  clear hb1 hs1 HR
  by_cases hlt:k<l.length
  ·obtain ⟨b,p,rfl,hb,hget⟩:=HA.out.get (by intro h;simp [h] at hlt)
   obtain ⟨fs,g1,g2⟩:=hget k hlt
   obtain ⟨pa,pc,bs,gh⟩:=g2.has
   have HBw:=Hd (show Below B w w1.drew from (B1.out.low.mono hB).trans ⟨rfl,rfl,rfl,Nat.le_refl _,fun _ _=>rfl⟩)
   have f0:=(g1.below HBw.out hb).get0' gh.name
   have f1:=g1.below HBw.out hb 1 (by rw [gh.len];omega)
   rw [gh.params] at f1
   have hpl:l[k].params.length≤N:=gh.hp
   clear g1 g2 gh hget
   obtain ⟨w2,hw2⟩:∃ w2,w2=w1.drew:=⟨_,rfl⟩
   have D2:=Hd (show Below w1.heap.size w1 w2 by rw [hw2];exact ⟨rfl,rfl,rfl,Nat.le_refl _,fun _ _=>rfl⟩)
   have B2:=Hd (B1.out.below D2.out)
   have S2:=Hd ((S1.out.keep (a7.of_below D2.out)).mono D2.out.size (Nat.le_refl _))
   have HW2:=Hd hw2
   rw [← hw2] at f0 f1
   clear hw2
   go_wp2_with fail
   refine wp_region_still_tail 12 (by kernel_rfl) (by kernel_rfl) ?_
   simp only [List.take_succ_cons,List.take_zero,List.drop_succ_cons,List.drop_zero]
   change wpStill _ _ w1.drew (fun a'=>wpList _ _ _ _ a' w1.drew) _ _
   rw [← HW2.out]
   refine jC rfl 134 _ rfl w.heap.size 0 rfl es _ B2.out.range Tryz.underlying134 rfl hesz.out ?_
   simp only [Act.put]
   repeat still_step
   refine wpStill_nil ?_
   go_wp2_with fail
   refine (ma _ l[k].name (l[k].params.length:Int) es w2 lo w2.heap.size (C+k) (by omega) (Nat.le_refl _) (Nat.le_trans hlo B2.out.low.size) S2.out).mono ?_
   rintro e w3 ⟨es3,rfl,hs3,hb3⟩
   have B3:=Hd (B2.out.below hb3)
   have S3:=Hd hs3
   have hes3:=hs3.len
   have hez3:=Hd (show (Tryz.prog.info? 134).map (·.size)=some es3.toArray.size by rw [List.size_toArray,hes3];kernel_rfl)
   have hsame:=Hd (show es.toArray.size=es3.toArray.size by rw [List.size_toArray,List.size_toArray,hes3];exact S2.out.len)
   clear hs3 hb3 hes3
   go_wp2_with (refine wpList_store_row rfl 134 _ _ rfl w.heap.size es3.toArray rfl rfl 134 _ B3.out.box hez3.out hsame.out S3.out.ones ?_)
   have HN:=Hd (show ∃ es',eD w (w3.setRow w.heap.size es3.toArray) es' cn 134∧ScD.At (w3.setRow w.heap.size es3.toArray) lo (w3.setRow w.heap.size es3.toArray).heap.size (C+(k+1)) ⟨d.vs,d.ls,d.gs++gsF (l.take (k+1))⟩ es' by
    obtain ⟨x,n,c',h0⟩:=S2.out.cell0
    have h4:=S3.out.setRow (B3.out.cell h0) es3.toArray
    refine ⟨es3,B3.out.set es3,?_⟩
    rw [p6 l hlt,← List.append_assoc]
    exact h4.mono (by simp) (by omega))
   go_roundw
   case rel=>exact ⟨k+1,by omega,by go_num,HN⟩
   case measure=>simp [intOf];omega
  ·obtain rfl:k=l.length:=by omega
   have hesz2:=Hd (show (Tryz.prog.info? 134).map (·.size)=some es.toArray.size by rw [List.size_toArray];exact hesz.out)
   have hsame:=Hd (show cn.toArray.size=es.toArray.size by rw [List.size_toArray,List.size_toArray,S1.out.len];rfl)
   go_wp2_with (first
    | (refine wpList_load_mid rfl 134 _ rfl w.heap.size 0 rfl es _ B1.out.range Tryz.underlying134 rfl hesz.out ?_)
    | (refine wpList_store_row rfl 134 _ _ rfl (w.heap.size+1) es.toArray rfl rfl 134 _ B1.out.out hesz2.out hsame.out S1.out.ones ?_))
   have HOUT:=setRow_heap w1 (w.heap.size+1) _ es.toArray _ _ B1.out.out
   refine bodyPost_ret (results_cell_row rfl _ _ (w.heap.size+1) 134 _ (0,0) _ rfl HOUT Tryz.underlying134 rfl hesz2.out) rfl ?_
   have h4:=S1.out.setRow (q:=w.heap.size+1) (x:=none) (n:=0) (c:=0) (by rw [cell_of_row w1 (w.heap.size+1) 0 _ _ _ B1.out.out];rfl) es.toArray
   rw [List.take_length] at h4
   exact ⟨es,rfl,h4.mono (by simp) (Nat.le_refl _),below_setRow B1.out.low (by omega) _⟩
def ScW (lo C:Nat) (D:ScD) (w:World) (e:Ending) (w':World):Prop:=∃ d cs,d=D∧e=.returned (.agg cs.toArray)∧ScD.At w' lo w'.heap.size C d cs∧Below w.heap.size w w'
theorem ScR.v {lo C C':Nat} {d:ScD} {w w':World} {e:Ending} (h:ScR lo C d w e w') (hC:C≤C'):ScW lo C' d w e w':=by
 obtain ⟨cs,h1,h2,h3⟩:=h
 exact ⟨d,cs,rfl,h1,h2.mono (Nat.le_refl _) hC,h3⟩
structure jA (w u:World) (cs fs zs:List Value) (t:TypeId):Prop where
 box:u.heap[w.heap.size]?=some (.cells cs.toArray t (0,0))
 row:aj u (w.heap.size+1) 0 fs
 out:u.heap[w.heap.size+2]?=some (.cells zs.toArray t (0,0))
 low:Below w.heap.size w u
 size:w.heap.size+3≤u.heap.size
theorem jA.start (w:World) (cs fs zs:List Value) (t tf:TypeId):jA w (((w.alloc (.cells cs.toArray t)).alloc (.cells fs.toArray tf)).alloc (.cells zs.toArray t)) cs fs zs t:=by
 have s1:(w.alloc (.cells cs.toArray t)).heap.size=w.heap.size+1:=World.size_alloc _ _
 have s2:((w.alloc (.cells cs.toArray t)).alloc (.cells fs.toArray tf)).heap.size=w.heap.size+2:=by rw [World.size_alloc,s1]
 refine ⟨?_,?_,?_,ae (ae (af w _) (af _ _)) (af _ _),by rw [World.size_alloc,s2];omega⟩
 ·exact (heap_alloc_old _ _ (by rw [s2];omega)).trans ((heap_alloc_old _ _ (by rw [s1];omega)).trans (heap_alloc_new w _))
 ·have h:=(aA (w.alloc (.cells cs.toArray t)) fs tf).then (af _ (.cells zs.toArray t)) (by rw [s2,s1];omega)
  rw [s1] at h
  exact h
 ·have h:=heap_alloc_new ((w.alloc (.cells cs.toArray t)).alloc (.cells fs.toArray tf)) (.cells zs.toArray t)
  rw [s2] at h
  exact h
theorem jA.below {w u u':World} {cs fs zs:List Value} {t:TypeId} (h:jA w u cs fs zs t) (hb:Below u.heap.size u u'):jA w u' cs fs zs t :=
 ⟨(hb.block _ (by have:=h.size;omega)).trans h.box,h.row.then hb (by have:=h.size;omega),(hb.block _ (by have:=h.size;omega)).trans h.out,ae h.low hb,Nat.le_trans h.size hb.size⟩
theorem jA.set {w u:World} {cs fs zs:List Value} {t:TypeId} (h:jA w u cs fs zs t) (ds:List Value):jA w (u.setRow w.heap.size ds.toArray) ds fs zs t:=by
 refine ⟨setRow_heap _ _ _ _ _ _ h.box,fun j hj=>?_,(setRow_other _ _ _ _ (by omega)).trans h.out,below_setRow h.low (Nat.le_refl _) _,by have:=h.size;simpa using this⟩
 rw [← h.row j hj]
 simp only [World.cell?]
 rw [setRow_other _ _ _ _ (by omega)]
theorem jA.cell {w u:World} {cs fs zs:List Value} {t:TypeId} (h:jA w u cs fs zs t) {j:Nat} {v:Value} (hv:cs[j]?=some v):u.cell? ⟨w.heap.size,j,none⟩=some v:=by
 rw [cell_of_row u w.heap.size j _ _ _ h.box];simpa using hv
theorem jA.range {w u:World} {cs fs zs:List Value} {t:TypeId} (h:jA w u cs fs zs t):u.rangeAt w.heap.size 0 cs:=fun j v hv=>by rw [Nat.zero_add];exact h.cell hv
set_option maxRecDepth 100000 in
set_option maxHeartbeats 3200000 in
theorem hI (f:al) (fs:List Value) (d:ScD) (cs:List Value) (w:World) (lo B C N:Nat) (hC:C≤536870912) (hN:N≤536870912) (hB:B≤w.heap.size) (hlo:lo≤w.heap.size) (h:ScD.At w lo B C d cs) (hf:al.At w B N f fs) :
 Calls Tryz.prog 87 #[.agg cs.toArray,.agg fs.toArray] w (ScW lo (C+f.params.length) (d.par f.params) w):=by
 obtain ⟨pa,pc,bs,gh⟩:=hf.has
 have HP:=Hd gh.atPar
 have f1:=gh.params
 have hpl:f.params.length≤N:=gh.hp
 have HS:=Hd (h.mono (B':=w.heap.size) (K':=C) hB (Nat.le_refl _))
 have hlen:=h.len
 have hsz:=Hd (show (Tryz.prog.info? 134).map (·.size)=some cs.length by rw [hlen];kernel_rfl)
 have B0:=Hd (jA.start w cs fs cn 134 72)
 clear gh hf h hlen
 go_enter Tryz.func87,Tryz.ntmps87
 go_wp2_with fail
 go_simp
 go_loopw [5] (fun i wr=>∃ k:Nat,k≤f.params.length∧i=.int .i64 k∧Hid (∃ d' es,d'=d.par (f.params.take k)∧jA w wr es fs cn 134∧ScD.At wr lo wr.heap.size (C+k) d' es)) (fun i _=>f.params.length-(intOf i).toNat)
 case atStart =>
  refine ⟨0,by omega,rfl,Hd ⟨d,cs,by simp [ScD.par,ni,pgs],B0.out,?_⟩⟩
  exact (HS.out.keep (a7.of_below B0.out.low)).mono (K':=C+0) (show w.heap.size≤_ from B0.out.low.size) (by omega)
 case round =>
  obtain ⟨w1,rfl⟩:∃ w1,w1=wr:=⟨wr,rfl⟩
  obtain ⟨k,hk,rfl,HR⟩:=hrel
  obtain ⟨d1,es,hv1,hb1,hs1⟩:=HR.out
  have HV1:=Hd hv1
  have B1:=Hd hb1
  have S1:=Hd hs1
  have hesz:=Hd (show (Tryz.prog.info? 134).map (·.size)=some es.length by rw [hs1.len];kernel_rfl)
  have e1:=hb1.row.get0 f1
  clear hb1 hs1 HR hv1
  by_cases hlt:k<f.params.length
  ·obtain ⟨b,p,rfl,hb,hget⟩:=HP.out.get (by intro h;simp [h] at hlt)
   obtain ⟨w2,hw2⟩:∃ w2,w2=w1.drew:=⟨_,rfl⟩
   have D2:=Hd (show Below w1.heap.size w1 w2 by rw [hw2];exact ⟨rfl,rfl,rfl,Nat.le_refl _,fun _ _=>rfl⟩)
   have B2:=Hd (B1.out.below D2.out)
   have S2:=Hd ((S1.out.keep (a7.of_below D2.out)).mono D2.out.size (Nat.le_refl _))
   have HW2:=Hd hw2
   have q1:=(hget k hlt).2.below (B1.out.low.mono hB) hb 1 (by show 1<2;omega)
   have q0:=((hget k hlt).2.below (B2.out.low.mono hB) hb).get0' rfl
   have e2:=B2.out.row.get0 f1
   have q1':w1.cell? ⟨b,p+k * 2+1,none⟩=some (.bool f.params[k].value):=q1
   clear hw2 hget q1
   cases hval:f.params[k].value
   all_goals
    rw [hval] at q1'
    have HNV:=Hd (d.par_step hlt)
    have HVAL:=Hd hval
    clear hval
    go_wp2_with fail
    refine wp_region_still_tail 7 (by kernel_rfl) (by kernel_rfl) ?_
    simp only [List.take_succ_cons,List.take_zero,List.drop_succ_cons,List.drop_zero]
    change wpStill _ _ w1.drew (fun a'=>wpList _ _ _ _ a' w1.drew) _ _
    rw [← HW2.out]
    refine jC rfl 134 _ rfl w.heap.size 0 rfl es _ B2.out.range Tryz.underlying134 rfl hesz.out ?_
    simp only [Act.put]
    repeat still_step
    refine wpStill_nil ?_
    go_wp2_with fail
    first
     | refine ((gm d1 f.params[k].name es w2 lo w2.heap.size (C+k) (by omega) (Nat.le_refl _) (Nat.le_trans hlo B2.out.low.size) S2.out).mono fun e w' h=>h.v (Nat.le_refl _)).mono ?_
     | refine ((ma d1 f.params[k].name 0 es w2 lo w2.heap.size (C+k) (by omega) (Nat.le_refl _) (Nat.le_trans hlo B2.out.low.size) S2.out).mono fun e w' h=>h.v (Nat.le_refl _)).mono ?_
    rintro e w3 ⟨d3,es3,hv3,rfl,hs3,hb3⟩
    have B3:=Hd (B2.out.below hb3)
    have S3:=Hd hs3
    have hes3:=hs3.len
    have hez3:=Hd (show (Tryz.prog.info? 134).map (·.size)=some es3.toArray.size by rw [List.size_toArray,hes3];kernel_rfl)
    have hsame:=Hd (show es.toArray.size=es3.toArray.size by rw [List.size_toArray,List.size_toArray,hes3];exact S2.out.len)
    have HV3:=Hd (show d3=d.par (f.params.take (k+1)) by
     rw [hv3,HNV.out,← HV1.out]
     unfold ScD.push
     rw [HVAL.out]
     rfl)
    clear hs3 hb3 hes3 hv3
    go_wp2_with (refine wpList_store_row rfl 134 _ _ rfl w.heap.size es3.toArray rfl rfl 134 _ B3.out.box hez3.out hsame.out S3.out.ones ?_)
    have HN:=Hd (show ∃ d' es',d'=d.par (f.params.take (k+1))∧jA w (w3.setRow w.heap.size es3.toArray) es' fs cn 134∧ScD.At (w3.setRow w.heap.size es3.toArray) lo (w3.setRow w.heap.size es3.toArray).heap.size (C+(k+1)) d' es' by
     obtain ⟨x,n,c',h0⟩:=S2.out.cell0
     have h4:=S3.out.setRow (B3.out.cell h0) es3.toArray
     exact ⟨d3,es3,HV3.out,B3.out.set es3,h4.mono (by simp) (by omega)⟩)
    go_roundw
    case rel=>exact ⟨k+1,by omega,by go_num,HN⟩
    case measure=>simp [intOf];omega
  ·obtain rfl:k=f.params.length:=by omega
   have hesz2:=Hd (show (Tryz.prog.info? 134).map (·.size)=some es.toArray.size by rw [List.size_toArray];exact hesz.out)
   have hsame:=Hd (show cn.toArray.size=es.toArray.size by rw [List.size_toArray,List.size_toArray,S1.out.len];rfl)
   go_wp2_with (first
    | (refine wpList_load_mid rfl 134 _ rfl w.heap.size 0 rfl es _ B1.out.range Tryz.underlying134 rfl hesz.out ?_)
    | (refine wpList_store_row rfl 134 _ _ rfl (w.heap.size+1+1) es.toArray rfl rfl 134 _ B1.out.out hesz2.out hsame.out S1.out.ones ?_))
   have HOUT:=setRow_heap w1 (w.heap.size+2) _ es.toArray _ _ B1.out.out
   refine bodyPost_ret (results_cell_row rfl _ _ (w.heap.size+1+1) 134 _ (0,0) _ rfl HOUT Tryz.underlying134 rfl hesz2.out) rfl ?_
   have h4:=S1.out.setRow (q:=w.heap.size+2) (x:=none) (n:=0) (c:=0) (by rw [cell_of_row w1 (w.heap.size+2) 0 _ _ _ B1.out.out];rfl) es.toArray
   have hv:=HV1.out
   rw [List.take_length] at hv
   exact ⟨d1,es,hv,rfl,h4.mono (by simp) (Nat.le_refl _),below_setRow B1.out.low (by omega) _⟩
end Go.Proofs.YtiefeajappjnbaaGreatDoor

/- The program's lists in new memory: with of strings and of locals. -/
namespace Go.Proofs.YtiefeajappjnbaaGreatDoor
open Go.RowKit
def D7 (l:List ByteArray) (w:World) (e:Ending) (w':World):Prop:=∃ v,e=.returned v∧w'.ownsRow w.heap.size 9 1 v l.length (l.map .string)∧Below w.heap.size w w'
theorem Au (l:List ByteArray) (a:Option Addr) (c:Nat) (w:World) (lo B:Nat) (hl:l.length≤1073741824) (h:bW w lo B l a):Calls Tryz.prog 217 #[.slice a l.length c] w (D7 l w):=by
 cases a with
 | none =>
   have h0:l=[]:=by
    rcases h with h | ⟨b,h,_⟩
    ·exact h
    ·cases h
   subst h0
   refine (Tryz.slices_Clone_string_nil 0 c w).mono ?_
   rintro e w' ⟨rfl,rfl⟩
   exact ⟨_,rfl,World.ownsRow_nil _ _ _ _,Below.refl _ _⟩
 | some ad =>
   by_cases hn:l=[]
   ·subst hn
    refine (Tryz.slices_Clone_string_zero ad c w).mono ?_
    rintro e w' ⟨v,rfl,h1,_,h2⟩
    exact ⟨v,rfl,h1,h2⟩
   ·obtain ⟨b,e,_,_,hget⟩:=h.get hn
    cases e
    refine (Tryz.slices_Clone_string b 0 l.length c l w (Nat.le_refl _) (by omega) (fun j hj=>?_)).mono ?_
    ·rw [Nat.zero_add,hget j hj,List.getD_eq_getElem?_getD,List.getElem?_eq_getElem hj]
     rfl
    ·rintro e w' ⟨v,rfl,h1,_,h2⟩
     rw [List.take_length] at h1
     exact ⟨v,rfl,h1,h2⟩
set_option maxRecDepth 100000 in
set_option maxHeartbeats 1600000 in
theorem vE (l:List ByteArray) (s:ByteArray) (a:Option Addr) (c:Nat) (w:World) (lo1 lo B:Nat) (hl:l.length≤1073741824) (hlo:lo≤w.heap.size) (h:bW w lo1 B l a) :
 Calls Tryz.prog 184 #[.slice a l.length c,.string s] w (yM lo (l++[s]) w):=by
 obtain ⟨i0,hi,hz0,hz1,hz2⟩:=info_parts xj
 have HI:=Hd hi
 have HZ0:=Hd hz0
 have HZ1:=Hd hz1
 have HZ2:=Hd hz2
 have HA:=Hd h
 clear hi hz0 hz1 hz2 h
 go_enter Tryz.func184,Tryz.ntmps184
 go_wp2_with fail
 refine (Au l a c w lo1 B hl HA.out).mono ?_
 rintro e w1 ⟨v1,rfl,hown1,hb1⟩
 have HO1:=Hd hown1
 have HB1:=Hd hb1
 clear hown1 hb1
 go_wp2_with (at_builtin;refine aU rfl _ _ 86 rfl w.heap.size 9 i0 (.string ⟨#[]⟩) 1 16 Tryz.underlying86 HI.out HZ0.out HZ1.out HZ2.out rfl (by decide) _ _ _ rfl (HO1.out.alloc _) (some ⟨w1.heap.size,0,none⟩) 1 1 [.string s] rfl rfl (dh w1 [.string s] 9 1) ?c3 ?c4 ?c5 ?c6 ?_)
 case c3=>intro u hu;simp at hu;subst hu;rfl
 case c4=>unfold maxLen;omega
 case c5=>omega
 case c6=>have:=HB1.out.size;simp;omega
 intro v2 w2 hown2 hgrow2
 have HB2:=Hd (kN HB1.out hgrow2 (fun k hk=>(HO1.out.lt k hk).1))
 have HO2:=Hd hown2
 clear hown2 hgrow2
 go_wp2
 go_ret
 exact sL HO2.out hlo (by simp) (by simp) HB2.out
abbrev sgC (l:List (ByteArray×Int)):List Value:=l.flatMap fun x=>[Value.string x.1,.int .i64 x.2]
def D8 (l:List (ByteArray×Int)) (w:World) (e:Ending) (w':World):Prop:=∃ v,e=.returned v∧w'.ownsRow w.heap.size 185 2 v l.length (sgC l)∧Below w.heap.size w w'
theorem xk:(Tryz.prog.info? 185).map (fun i=>(i.zero,i.size,i.bytes))=some (some (.agg #[.string ⟨#[]⟩,.int .i64 0]),2,24):=by kernel_rfl
set_option maxRecDepth 100000 in
set_option maxHeartbeats 1600000 in
theorem tE (l:List (ByteArray×Int)) (a:Option Addr) (c:Nat) (w:World) (lo B:Nat) (hl:l.length≤1073741824) (hB:B≤w.heap.size) (h:co w lo B l a) :
 Calls Tryz.prog 183 #[.slice a l.length c] w (D8 l w):=by
 obtain ⟨i0,hi,hz0,hz1,hz2⟩:=info_parts xk
 have HI:=Hd hi
 have HZ0:=Hd hz0
 have HZ1:=Hd hz1
 have HZ2:=Hd hz2
 clear hi hz0 hz1 hz2
 have q26:∀ (w:World) (a:Option Addr) (n c n' c':Nat),(binOp .eql 145 (.slice a n c) (.slice none n' c')).run Tryz.prog w=.ok (.bool a.isNone) w:=fun w a n c n' c'=>Lib.run_eql_slice_nil w _ _ a n c n' c' Tryz.underlying145
 cases a with
 | none =>
   have h0:l=[]:=by
    rcases h with h | ⟨b,h,_⟩
    ·exact h
    ·cases h
   subst h0
   clear h
   go_enter Tryz.func183,Tryz.ntmps183
   go_wp2_with fail
   go_ret
   exact ⟨_,rfl,World.ownsRow_nil _ _ _ _,Below.refl _ _⟩
 | some ad =>
   have HS:=Hd ((h.keep (a7.of_below ((af w (.cells #[] 185)).mono hB))).src)
   have HLEN:=Hd (sy l)
   clear h
   go_enter Tryz.func183,Tryz.ntmps183
   go_wp2_with (at_builtin;refine aU rfl _ _ 145 rfl w.heap.size 185 i0 (.agg #[.string ⟨#[]⟩,.int .i64 0]) 2 24 Tryz.underlying145 HI.out HZ0.out HZ1.out HZ2.out rfl (by decide) _ _ _ rfl (World.ownsRow_made w #[] 0 (Nat.le_refl _) (Nat.zero_le _) rfl) (some ad) l.length c (sgC l) rfl HLEN.out HS.out (sx l) ?c4 ?c5 ?c6 ?_)
   case c4=>unfold maxLen;omega
   case c5=>omega
   case c6=>simp
   intro v1 w1 hown1 hgrow1
   have HO1:=Hd hown1
   have HB1:=Hd (show Below w.heap.size w w1 from (af w _).grown hgrow1 (by simp) (by intro k hk;simp [Value.ownBlock] at hk;omega))
   clear hown1 hgrow1
   go_wp2
   go_ret
   exact ⟨_,rfl,by simpa using HO1.out,HB1.out⟩
def DD (lo:Nat) (l:List (ByteArray×Int)) (w:World) (e:Ending) (w':World):Prop:=∃ (a:Option Addr) (c:Nat),e=.returned (.slice a l.length c)∧l.length≤c∧c≤maxLen∧co w' lo w'.heap.size l a∧Below w.heap.size w w'
theorem pk (l:List (ByteArray×Int)) (s:ByteArray) (n:Int):sgC (l++[(s,n)])=sgC l++[.string s,.int .i64 n]:=by
 unfold sgC
 rw [List.flatMap_append]
 rfl
theorem hJ {w:World} {b b' n sz:Nat} {t:TypeId} {v:Value} {xs:List Value} (h:w.ownsRow b t sz v n xs) (hb:b'≤b):w.ownsRow b' t sz v n xs:=⟨h.1,by
 rcases h.2 with h | ⟨g,cap,cur,h0,h1,h2⟩
 ·exact .inl h
 ·exact .inr ⟨g,cap,cur,h0,Nat.le_trans hb h1,h2⟩⟩
structure kY (w u:World) (cs:List Value):Prop where
 row:aj u w.heap.size 0 cs
 low:Below w.heap.size w u
 size:w.heap.size+1≤u.heap.size
theorem kY.below {w u u':World} {cs:List Value} (h:kY w u cs) (hb:Below u.heap.size u u'):kY w u' cs:=⟨h.row.then hb (by have:=h.size;omega),ae h.low hb,Nat.le_trans h.size hb.size⟩
theorem kY.start (w:World) (cs:List Value) (t:TypeId):kY w (w.alloc (.cells cs.toArray t)) cs:=⟨aA w cs t,af w _,by rw [World.size_alloc];omega⟩
theorem cG (w:World):Below w.heap.size w w.drew:=⟨rfl,rfl,rfl,Nat.le_refl _,fun _ _=>rfl⟩
set_option maxRecDepth 100000 in
set_option maxHeartbeats 3200000 in
theorem vF (l:List (ByteArray×Int)) (s:ByteArray) (n:Int) (a:Option Addr) (c:Nat) (w:World) (lo1 lo B:Nat) (hl:l.length≤536870912) (hlo:lo≤w.heap.size) (hB:B≤w.heap.size) (h:co w lo1 B l a) :
 Calls Tryz.prog 140 #[.slice a l.length c,.agg #[.string s,.int .i64 n]] w (DD lo (l++[(s,n)]) w):=by
 obtain ⟨i0,hi,hz0,hz1,hz2⟩:=info_parts xk
 have HI:=Hd hi
 have HZ0:=Hd hz0
 have HZ1:=Hd hz1
 have HZ2:=Hd hz2
 have HA:=Hd h
 have B0:=Hd (kY.start w [.string s,.int .i64 n] 185)
 clear hi hz0 hz1 hz2 h
 go_enter Tryz.func140,Tryz.ntmps140
 go_wp2_with fail
 refine wp_region_held_drew (S:=fun u=>kY w u [.string s,.int .i64 n]) (by kernel_rfl) (B0.out.below (cG _)) (fun hHeld=>?_)
 refine' wpAnyH_take (i:=0) (v:=.slice a l.length c) rfl (by kernel_rfl) (by kernel_rfl) (by kernel_rfl) (fun _ _ _ h=>h) (.inl ⟨by rfl,fun u hu=>(by go_simp)⟩) hHeld ?_
 simp only [Act.put,List.setIfInBounds_toArray]
 refine' wpAnyH_take (i:=2) (v:=.agg #[.string s,.int .i64 n]) rfl (by kernel_rfl) (by kernel_rfl) (by kernel_rfl) (fun _ _ _ h=>h) (.inl ⟨by rfl,fun u hu=>(by have h0:=hu.row.get0 (j:=0) rfl;have h1:=hu.row.get0 (j:=1) rfl;go_simp)⟩) hHeld ?_
 simp only [Act.put]
 refine wpAnyH_ready (rs:=[1,3]) (by kernel_rfl) (by simp) ?_
 refine AllReadyH.cons rfl (fun K hK=>?_) (AllReadyH.cons rfl (fun K hK=>?_) AllReadyH.nil)
 ·go_simp
  refine (tE l a c _ lo1 B (by omega) (Nat.le_trans hB hHeld.low.size) (HA.out.keep (a7.of_below (hHeld.low.mono hB)))).mono ?_
  rintro e u1 ⟨v1,rfl,hown1,hb1⟩
  have HO1:=Hd (hJ hown1 hHeld.size)
  refine hK.out _ _ (hHeld.below hb1) (fun hHeld1=>?_)
  clear hK K hHeld hown1
  refine rd1 3 rfl (fun K hK=>?_)
  go_simp
  refine hK.out _ _ (hHeld1.below (af _ _)) (fun hHeld2=>?_)
  clear hK K
  refine rd1 4 rfl (fun K hK=>?_)
  rw [if_pos (by kernel_rfl)]
  refine wp_append_own _ _ _ 145 rfl (w.heap.size+1) 185 i0 (.agg #[.string ⟨#[]⟩,.int .i64 0]) 2 24 Tryz.underlying145 HI.out HZ0.out HZ1.out HZ2.out rfl (by decide) v1 l.length (sgC l) rfl (HO1.out.alloc _) ⟨u1.heap.size,0,none⟩ 1 1 [.string s,.int .i64 n] rfl rfl ((dh u1 [.string s,.int .i64 n] 185 1).2 _ rfl) ?_ (by unfold maxLen;omega) (by omega) (by have:=hHeld2.size;omega) (fun v' u3 ho3 hg3 _=>?_)
  ·intro u hu;simp only [List.mem_cons,List.mem_nil_iff,or_false] at hu;rcases hu with rfl | rfl<;>rfl
  have HO3:=Hd ho3
  have HB3:=Hd (show Below (w.heap.size+1) _ u3 from (Below.refl _ _).grown hg3 hHeld2.size (fun k hk=>(HO1.out.lt k hk).1))
  have HX3:=Hd (show kY w u3 [.string s,.int .i64 n] from ⟨hHeld2.row.below HB3.out (by omega),hHeld2.low.trans (HB3.out.mono (by omega)),Nat.le_trans hHeld2.size HB3.out.size⟩)
  refine hK.out _ _ HX3.out (fun hHeldx=>?_)
  clear hK K hHeldx ho3 hg3
  refine rd1 5 rfl (fun K hK=>?_)
  go_simp
  refine hK.out _ _ HX3.out (fun hHeldx=>?_)
  clear hK K hHeldx
  refine wpAnyH_done (by kernel_rfl) ?_ _
  go_wp2_with fail
  go_ret
  obtain ⟨a3,c3,rfl,g1,g2,g3⟩:=n5 (l:=l++[(s,n)]) (lo:=lo) (by have h:=HO3.out;rw [← pk] at h;simpa using h) (show lo≤w.heap.size+1 by omega)
  exact ⟨a3,c3,rfl,g1,g2,g3,HX3.out.low⟩
 ·go_simp
  refine hK.out _ _ (hHeld.below (af _ _)) (fun hHeld1=>?_)
  clear hK K
  refine rd1 1 rfl (fun K hK=>?_)
  go_simp
  refine (tE l a c _ lo1 B (by omega) (Nat.le_trans hB hHeld1.low.size) (HA.out.keep (a7.of_below (hHeld1.low.mono hB)))).mono ?_
  rintro e u1 ⟨v1,rfl,hown1,hb1⟩
  have hsz2:((w.alloc (.cells #[.string s,.int .i64 n] 185)).alloc (.cells #[.string s,.int .i64 n] 185)).drew.heap.size=w.heap.size+1+1:=by
   show ((w.alloc (.cells #[.string s,.int .i64 n] 185)).alloc (.cells #[.string s,.int .i64 n] 185)).heap.size=_
   rw [World.size_alloc,World.size_alloc]
  have HO1:=Hd (show u1.ownsRow (w.heap.size+1) 185 2 v1 l.length (sgC l) by rw [hsz2] at hown1;exact ⟨hown1.1,by
   rcases hown1.2 with h | ⟨g,cap,cur,h0,h1,h2⟩
   ·exact .inl h
   ·exact .inr ⟨g,cap,cur,h0,by omega,h2⟩⟩)
  have HSR:=Hd (show ∀ (j:Nat) (u:Value),[Value.string s,.int .i64 n][j]?=some u→u1.cell? ((⟨w.heap.size+1,0,none⟩:Addr).add j)=some u from fun j u hj=>by
   have h1:=(dh (w.alloc (.cells #[.string s,.int .i64 n] 185)) [.string s,.int .i64 n] 185 1).2 _ rfl j u hj
   rw [World.size_alloc] at h1
   rw [bP] at h1 ⊢
   rw [hb1.cell (p:=⟨w.heap.size+1,0+j,none⟩) (by rw [hsz2];show w.heap.size+1<w.heap.size+1+1;omega)]
   exact h1)
  refine hK.out _ _ (hHeld1.below hb1) (fun hHeld2=>?_)
  clear hK K hHeld1 hown1 hb1 hsz2
  refine rd1 4 rfl (fun K hK=>?_)
  rw [if_pos (by kernel_rfl)]
  refine wp_append_own _ _ _ 145 rfl (w.heap.size+1) 185 i0 (.agg #[.string ⟨#[]⟩,.int .i64 0]) 2 24 Tryz.underlying145 HI.out HZ0.out HZ1.out HZ2.out rfl (by decide) v1 l.length (sgC l) rfl HO1.out ⟨w.heap.size+1,0,none⟩ 1 1 [.string s,.int .i64 n] rfl rfl HSR.out ?_ (by unfold maxLen;omega) (by omega) (by have:=hHeld2.size;omega) (fun v' u3 ho3 hg3 _=>?_)
  ·intro u hu;simp only [List.mem_cons,List.mem_nil_iff,or_false] at hu;rcases hu with rfl | rfl<;>rfl
  have HO3:=Hd ho3
  have HB3:=Hd (show Below (w.heap.size+1) _ u3 from (Below.refl _ _).grown hg3 hHeld2.size (fun k hk=>(HO1.out.lt k hk).1))
  have HX3:=Hd (show kY w u3 [.string s,.int .i64 n] from ⟨hHeld2.row.below HB3.out (by omega),hHeld2.low.trans (HB3.out.mono (by omega)),Nat.le_trans hHeld2.size HB3.out.size⟩)
  refine hK.out _ _ HX3.out (fun hHeldx=>?_)
  clear hK K hHeldx ho3 hg3
  refine rd1 5 rfl (fun K hK=>?_)
  go_simp
  refine hK.out _ _ HX3.out (fun hHeldx=>?_)
  clear hK K hHeldx
  refine wpAnyH_done (by kernel_rfl) ?_ _
  go_wp2_with fail
  go_ret
  obtain ⟨a3,c3,rfl,g1,g2,g3⟩:=n5 (l:=l++[(s,n)]) (lo:=lo) (by have h:=HO3.out;rw [← pk] at h;simpa using h) (show lo≤w.heap.size+1 by omega)
  exact ⟨a3,c3,rfl,g1,g2,g3,HX3.out.low⟩
end Go.Proofs.YtiefeajappjnbaaGreatDoor

/- The program's scopes: variable, params, inner. -/
namespace Go.Proofs.YtiefeajappjnbaaGreatDoor
open Go.RowKit
theorem bW.setCell {u:World} {lo B:Nat} {l:List ByteArray} {a:Option Addr} (h:bW u lo B l a) {q:Nat} {x:Option Addr} {n c:Nat} (hq:u.cell? ⟨q,0,none⟩=some (.slice x n c)) (j:Nat) (v:Value):bW (u.setCell ⟨q,j,none⟩ v) lo B l a:=by
 rcases h with h | ⟨b,h1,h2,h3,h4⟩
 ·exact .inl h
 ·cases hl:l with
  | nil=>exact .inl rfl
  | cons y r =>
    have h0:=h4 0 y (by rw [hl];rfl)
    have hb:b≠q:=fun e=>by
     subst e
     rw [hq] at h0
     cases h0
    rw [← hl]
    refine .inr ⟨b,h1,h2,h3,fun k z hz=>?_⟩
    rw [← h4 k z hz]
    simp only [World.cell?]
    rw [heap_setCell_other _ _ _ _ hb]
theorem co.setCell {u:World} {lo B:Nat} {l:List (ByteArray×Int)} {a:Option Addr} (h:co u lo B l a) {q:Nat} {x:Option Addr} {n c:Nat} (hq:u.cell? ⟨q,0,none⟩=some (.slice x n c)) (j:Nat) (v:Value):co (u.setCell ⟨q,j,none⟩ v) lo B l a:=by
 rcases h with h | ⟨b,h1,h2,h3,h4⟩
 ·exact .inl h
 ·cases hl:l with
  | nil=>exact .inl rfl
  | cons y r =>
    have h0:=h4 0 (.string y.1) (by rw [hl];rfl)
    have hb:b≠q:=fun e=>by
     subst e
     rw [hq] at h0
     cases h0
    rw [← hl]
    refine .inr ⟨b,h1,h2,h3,fun k z hz=>?_⟩
    rw [← h4 k z hz]
    simp only [World.cell?]
    rw [heap_setCell_other _ _ _ _ hb]
theorem eD.setCell {w u:World} {cs zs:List Value} {t:TypeId} (h:eD w u cs zs t) (j:Nat) (v:Value):eD w (u.setCell ⟨w.heap.size,j,none⟩ v) (cs.set j v) zs t:=by
 refine ⟨?_,(heap_setCell_other _ _ _ _ (by simp)).trans h.out,h.low.setCell (Nat.le_refl _) v,by have:=h.size;simpa using this⟩
 rw [heap_setCell_same u w.heap.size j _ _ _ h.box]
 simp
theorem eD.frozen {w u:World} {cs zs:List Value} {t:TypeId} (h:eD w u cs zs t) (j:Nat):u.frozen? ⟨w.heap.size,j,none⟩=false:=frozen_of_row u w.heap.size j _ _ h.box
theorem yS (l:List ByteArray) (n:Nat) (hn:l.length=n) (s:ByteArray) (a:Option Addr) (c:Nat) (w:World) (lo1 lo B:Nat) (hl:l.length≤1073741824) (hlo:lo≤w.heap.size) (h:bW w lo1 B l a) :
 Calls Tryz.prog 184 #[.slice a n c,.string s] w (yM lo (l++[s]) w):=by
 subst hn
 exact vE l s a c w lo1 lo B hl hlo h
set_option maxRecDepth 100000 in
set_option maxHeartbeats 3200000 in
theorem gn (d:ScD) (s:ByteArray) (cs:List Value) (w:World) (lo B C:Nat) (hC:C≤1073741824) (hB:B≤w.heap.size) (hlo:lo≤w.heap.size) (h:ScD.At w lo B C d cs) :
 Calls Tryz.prog 179 #[.agg cs.toArray,.string s] w (ScW lo (C+1) ⟨d.vs++[s],d.ls,d.gs⟩ w):=by
 obtain ⟨va,la,ga,vc,lc,gc,rfl,hv,hls,hg,k1,k2,k3⟩:=h
 have HV:=Hd hv
 have HL:=Hd hls
 have HG:=Hd hg
 obtain ⟨nv,hnv⟩:∃ n,d.vs.length=n:=⟨_,rfl⟩
 obtain ⟨nl,hnl⟩:∃ n,d.ls.length=n:=⟨_,rfl⟩
 obtain ⟨ng,hng⟩:∃ n,d.gs.length=n:=⟨_,rfl⟩
 have HNV:=Hd hnv
 have HNL:=Hd hnl
 have HNG:=Hd hng
 have K1:=Hd k1
 have K2:=Hd k2
 have K3:=Hd k3
 rw [hnv,hnl,hng]
 clear hv hls hg hnv hnl hng k1 k2 k3
 have B0:=Hd (eD.start w [.slice va nv vc,.slice la nl lc,.slice ga ng gc] cn 147)
 have z0:=B0.out.cell (j:=0) rfl
 go_enter Tryz.func179,Tryz.ntmps179
 go_wp2_with fail
 refine (yS d.vs nv HNV.out s va vc _ lo lo B (by have:=K1.out;omega) (by have:=B0.out.size;omega) (HV.out.keep (a7.of_below (B0.out.low.mono hB)))).mono ?_
 rintro e u1 ⟨a1,c1,rfl,_,_,hn1,hb1⟩
 have B1:=Hd (B0.out.below hb1)
 have N1:=Hd hn1
 obtain ⟨m1,hm1⟩:∃ m,(d.vs++[s]).length=m:=⟨_,rfl⟩
 have HM1:=Hd hm1
 rw [hm1]
 clear hn1 hb1 hm1 z0
 have z1:=B1.out.cell (j:=0) rfl
 have f1:=B1.out.frozen 0
 have Z1:=Hd z1
 have B2:=Hd (show eD w (u1.setCell ⟨w.heap.size,0,none⟩ (.slice a1 m1 c1)) [.slice a1 m1 c1,.slice la nl lc,.slice ga ng gc] cn 147 from B1.out.setCell 0 (.slice a1 m1 c1))
 go_wp2_with (first
  | (refine wpList_load_mid rfl 147 _ rfl w.heap.size 0 rfl [.slice a1 m1 c1,.slice la nl lc,.slice ga ng gc] _ B2.out.range Tryz.underlying147 rfl (by kernel_rfl) ?_)
  | (refine wpList_store_row rfl 147 _ _ rfl (w.heap.size+1) #[.slice a1 m1 c1,.slice la nl lc,.slice ga ng gc] rfl rfl 147 _ B2.out.out (by kernel_rfl) rfl (uv ..) ?_))
 have HOUT:=setRow_heap (u1.setCell ⟨w.heap.size,0,none⟩ (.slice a1 m1 c1)) (w.heap.size+1) _ #[.slice a1 m1 c1,.slice la nl lc,.slice ga ng gc] _ _ B2.out.out
 refine bodyPost_ret (results_cell_row rfl _ _ (w.heap.size+1) 147 _ (0,0) _ rfl HOUT Tryz.underlying147 rfl (by kernel_rfl)) rfl ?_
 have hlow:a7 lo B w u1:=a7.of_below (B1.out.low.mono hB)
 have hs1:=B1.out.size
 have A0:ScD.At u1 lo u1.heap.size (C+1) ⟨d.vs++[s],d.ls,d.gs⟩ [.slice a1 m1 c1,.slice la nl lc,.slice ga ng gc]:=by
  refine ⟨a1,la,ga,c1,lc,gc,by rw [HM1.out,HNL.out,HNG.out],N1.out,(HL.out.keep hlow).mono (by omega),(HG.out.keep hlow).mono (by omega),?_,?_,?_⟩
  ·have:=K1.out
   rw [List.length_append]
   show d.vs.length+1≤C+1
   omega
  ·have:=K2.out
   show d.ls.length≤C+1
   omega
  ·have:=K3.out
   show d.gs.length≤C+1
   omega
 have A1:ScD.At (u1.setCell ⟨w.heap.size,0,none⟩ (.slice a1 m1 c1)) lo u1.heap.size (C+1) ⟨d.vs++[s],d.ls,d.gs⟩ [.slice a1 m1 c1,.slice la nl lc,.slice ga ng gc]:=by
  obtain ⟨va',la',ga',vc',lc',gc',h0,h1,h2,h3,h4⟩:=A0
  exact ⟨va',la',ga',vc',lc',gc',h0,h1.setCell Z1.out 0 _,h2.setCell Z1.out 0 _,h3.setCell Z1.out 0 _,h4⟩
 have A2:=A1.setRow (q:=w.heap.size+1) (x:=none) (n:=0) (c:=0) (by rw [cell_of_row _ (w.heap.size+1) 0 _ _ _ B2.out.out];rfl) #[.slice a1 m1 c1,.slice la nl lc,.slice ga ng gc]
 exact ⟨_,[.slice a1 m1 c1,.slice la nl lc,.slice ga ng gc],rfl,rfl,A2.mono (by simp) (Nat.le_refl _),below_setRow B2.out.low (by omega) _⟩
theorem yT (l:List (ByteArray×Int)) (m:Nat) (hm:l.length=m) (s:ByteArray) (n:Int) (a:Option Addr) (c:Nat) (w:World) (lo1 lo B:Nat) (hl:l.length≤536870912) (hlo:lo≤w.heap.size) (hB:B≤w.heap.size) (h:co w lo1 B l a) :
 Calls Tryz.prog 140 #[.slice a m c,.agg #[.string s,.int .i64 n]] w (DD lo (l++[(s,n)]) w):=by
 subst hm
 exact vF l s n a c w lo1 lo B hl hlo hB h
theorem k9:(Tryz.prog.info? 120).map (·.size)=some 2:=by kernel_rfl
set_option maxRecDepth 100000 in
set_option maxHeartbeats 3200000 in
theorem pF (l:List aZ) (a:Option Addr) (c:Nat) (d:ScD) (cs:List Value) (w:World) (lo B C N:Nat) (hC:C≤268435456) (hN:N≤268435456) (hl:l.length≤N) (hB:B≤w.heap.size) (hlo:lo≤w.heap.size) (h:ScD.At w lo B C d cs) (hA:aF w B N l a) :
 Calls Tryz.prog 136 #[.agg cs.toArray,.slice a l.length c] w (ScW lo (C+l.length) (d.par l) w):=by
 have HP:=Hd hA
 have HS:=Hd (h.mono (B':=w.heap.size) (K':=C) hB (Nat.le_refl _))
 have hlen:=h.len
 have B0:=Hd (eD.start w cs cn 147)
 clear hA h hlen
 go_enter Tryz.func136,Tryz.ntmps136
 go_wp2_with fail
 go_simp
 go_loopw [9] (fun i wr=>∃ k:Nat,k≤l.length∧i=.int .i64 k∧Hid (∃ d' es,d'=d.par (l.take k)∧eD w wr es cn 147∧ScD.At wr lo wr.heap.size (C+k) d' es)) (fun i _=>l.length-(intOf i).toNat)
 case atStart =>
  refine ⟨0,by omega,rfl,Hd ⟨d,cs,by simp [ScD.par,ni,pgs],B0.out,?_⟩⟩
  exact (HS.out.keep (a7.of_below B0.out.low)).mono (K':=C+0) (show w.heap.size≤_ from B0.out.low.size) (by omega)
 case round =>
  obtain ⟨w1,rfl⟩:∃ w1,w1=wr:=⟨wr,rfl⟩
  obtain ⟨k,hk,rfl,HR⟩:=hrel
  obtain ⟨d1,es,hv1,hb1,hs1⟩:=HR.out
  have HV1:=Hd hv1
  have B1:=Hd hb1
  have S1:=Hd hs1
  have hesz:=Hd (show (Tryz.prog.info? 147).map (·.size)=some es.length by rw [hs1.len];kernel_rfl)
  clear hb1 hs1 HR hv1
  by_cases hlt:k<l.length
  ·obtain ⟨b,p,rfl,hb,hget⟩:=HP.out.get (by intro h;simp [h] at hlt)
   obtain ⟨ps,hps⟩:∃ ps,ps=(l[k]).cells:=⟨_,rfl⟩
   have q0:ps[0]?=some (.string (l[k]).name):=by rw [hps];rfl
   have q1:ps[1]?=some (.bool (l[k]).value):=by rw [hps];rfl
   have hpl2:ps.length=2:=by rw [hps];rfl
   have hpone:=Hd (show ps.toArray.all (·.oneCell')=true from Go.all_oneCell_toArray (fun u hu=>by
    rw [hps] at hu
    simp only [aZ.cells,List.mem_cons,List.mem_nil_iff,or_false] at hu
    rcases hu with rfl | rfl<;>rfl))
   have HR2:=Hd (show aj w1 b (p+k * 2) ps by rw [hps];exact (hget k hlt).2.below (B1.out.low.mono hB) hb).range
   have hlp:=Hd (show (Tryz.prog.info? 120).map (·.size)=some ps.length by rw [hpl2];exact k9)
   have hlp2:=Hd (show (Tryz.prog.info? 120).map (·.size)=some ps.toArray.size by rw [List.size_toArray,hpl2];exact k9)
   have h2s:=Hd (show 2=ps.toArray.size by rw [List.size_toArray,hpl2])
   have PX:=Hd (aA w1 ps 120)
   have B2:=Hd (B1.out.below (af w1 (.cells ps.toArray 120)))
   have S2:=Hd ((S1.out.keep (a7.of_below (af w1 (.cells ps.toArray 120)))).mono (af w1 (.cells ps.toArray 120)).size (Nat.le_refl _))
   have e0:=PX.out.get0 q0
   have e1:=PX.out.get0 q1
   have HNV:=Hd (d.par_step hlt)
   clear hget hps q0 q1 hpl2
   cases hval:l[k].value
   case true =>
    rw [hval] at e1
    have HVAL:=Hd hval
    clear hval
    go_wp2_with (first
     | (refine wpList_load_mid rfl 120 _ rfl b (p+k * 2) rfl ps _ HR2.out Tryz.underlying120 rfl hlp.out ?_)
     | (refine ak rfl 120 _ _ rfl _ ps.toArray rfl rfl hlp2.out h2s.out hpone.out ?_)
     | (refine wpList_load_mid rfl 147 _ rfl w.heap.size 0 rfl es _ B2.out.range Tryz.underlying147 rfl hesz.out ?_))
    refine (gn d1 l[k].name es _ lo (w1.alloc (.cells ps.toArray 120)).heap.size (C+k) (by omega) (Nat.le_refl _) (Nat.le_trans hlo B2.out.low.size) S2.out).mono ?_
    rintro e w3 ⟨d3,es3,hv3,rfl,hs3,hb3⟩
    have B3:=Hd (B2.out.below hb3)
    have S3:=Hd hs3
    have hes3:=hs3.len
    have hez3:=Hd (show (Tryz.prog.info? 147).map (·.size)=some es3.toArray.size by rw [List.size_toArray,hes3];kernel_rfl)
    have hsame:=Hd (show es.toArray.size=es3.toArray.size by rw [List.size_toArray,List.size_toArray,hes3];exact S2.out.len)
    have HV3:=Hd (show d3=d.par (l.take (k+1)) by
     rw [hv3,HNV.out,← HV1.out]
     unfold ScD.push
     rw [HVAL.out]
     rfl)
    clear hs3 hb3 hes3 hv3 e0 e1
    go_wp2_with (refine wpList_store_row rfl 147 _ _ rfl w.heap.size es3.toArray rfl rfl 147 _ B3.out.box hez3.out hsame.out S3.out.ones ?_)
    have HN:=Hd (show ∃ d' es',d'=d.par (l.take (k+1))∧eD w (w3.setRow w.heap.size es3.toArray) es' cn 147∧ScD.At (w3.setRow w.heap.size es3.toArray) lo (w3.setRow w.heap.size es3.toArray).heap.size (C+(k+1)) d' es' by
     obtain ⟨x,n,c',h0⟩:=S2.out.cell0
     have h4:=S3.out.setRow (B3.out.cell h0) es3.toArray
     exact ⟨d3,es3,HV3.out,B3.out.set es3,h4.mono (by simp) (by omega)⟩)
    go_roundw
    case rel=>exact ⟨k+1,by omega,by go_num,HN⟩
    case measure=>simp [intOf];omega
   case false =>
    rw [hval] at e1
    have HVAL:=Hd hval
    clear hval
    obtain ⟨va,la,ga,vc,lc,gc,hes,hv,hls,hg,k1,k2,k3⟩:=S2.out
    have HG2:=Hd hg
    obtain ⟨ng,hng⟩:∃ n,d1.gs.length=n:=⟨_,rfl⟩
    obtain ⟨nv,hnv⟩:∃ n,d1.vs.length=n:=⟨_,rfl⟩
    obtain ⟨nl,hnl⟩:∃ n,d1.ls.length=n:=⟨_,rfl⟩
    have HNG:=Hd hng
    have HNV1:=Hd hnv
    have HNL:=Hd hnl
    rw [hnv,hnl,hng] at hes
    subst hes
    have K3:=Hd k3
    have e2:=B2.out.cell (j:=2) (v:=.slice ga ng gc) rfl
    clear hv hls hg k1 k2 k3 hng hnv hnl
    go_wp2_with (first
     | (refine wpList_load_mid rfl 120 _ rfl b (p+k * 2) rfl ps _ HR2.out Tryz.underlying120 rfl hlp.out ?_)
     | (refine ak rfl 120 _ _ rfl _ ps.toArray rfl rfl hlp2.out h2s.out hpone.out ?_))
    refine (yT d1.gs ng HNG.out l[k].name 0 ga gc _ lo lo (w1.alloc (.cells ps.toArray 120)).heap.size (by have:=K3.out;omega) (Nat.le_trans hlo B2.out.low.size) (Nat.le_refl _) HG2.out).mono ?_
    rintro e w3 ⟨a3,c3,rfl,_,_,hn3,hb3⟩
    have B3:=Hd (B2.out.below hb3)
    have N3:=Hd hn3
    have S3:=Hd ((S2.out.keep (a7.of_below hb3)).mono hb3.size (Nat.le_refl _))
    obtain ⟨m3,hm3⟩:∃ m,(d1.gs++[(l[k].name,(0:Int))]).length=m:=⟨_,rfl⟩
    have HM3:=Hd hm3
    rw [hm3]
    clear hn3 hb3 hm3 e0 e1 e2
    have e2:=B3.out.cell (j:=2) (v:=.slice ga ng gc) rfl
    have fz:=B3.out.frozen 2
    go_wp2_with fail
    have HN:=Hd (show ∃ d' es',d'=d.par (l.take (k+1))∧eD w (w3.setCell ⟨w.heap.size,2,none⟩ (.slice a3 m3 c3)) es' cn 147∧ScD.At (w3.setCell ⟨w.heap.size,2,none⟩ (.slice a3 m3 c3)) lo (w3.setCell ⟨w.heap.size,2,none⟩ (.slice a3 m3 c3)).heap.size (C+(k+1)) d' es' by
     refine ⟨⟨d1.vs,d1.ls,d1.gs++[(l[k].name,0)]⟩,[.slice va nv vc,.slice la nl lc,.slice a3 m3 c3],?_,B3.out.setCell 2 _,?_⟩
     ·rw [HNV.out,← HV1.out]
      unfold ScD.push
      rw [HVAL.out]
      rfl
     ·obtain ⟨va',la',ga',vc',lc',gc',h0,h1,h2,_,h4,h5,h6⟩:=S3.out
      simp only [List.cons.injEq,Value.slice.injEq,and_true] at h0
      obtain ⟨⟨rfl,_,rfl⟩,⟨rfl,_,rfl⟩,_⟩:=h0
      have hz:=B3.out.cell (j:=0) (v:=.slice va nv vc) rfl
      refine ⟨va,la,a3,vc,lc,c3,by rw [HNV1.out,HNL.out,HM3.out],(h1.setCell hz 2 _).mono (by simp),(h2.setCell hz 2 _).mono (by simp),(N3.out.setCell hz 2 _).mono (by simp),by show d1.vs.length≤_;omega,by show d1.ls.length≤_;omega,?_⟩
      rw [List.length_append]
      show d1.gs.length+1≤C+(k+1)
      omega)
    go_roundw
    case rel=>exact ⟨k+1,by omega,by go_num,HN⟩
    case measure=>simp [intOf];omega
  ·obtain rfl:k=l.length:=by omega
   have hesz2:=Hd (show (Tryz.prog.info? 147).map (·.size)=some es.toArray.size by rw [List.size_toArray];exact hesz.out)
   have hsame:=Hd (show cn.toArray.size=es.toArray.size by rw [List.size_toArray,List.size_toArray,S1.out.len];rfl)
   go_wp2_with (first
    | (refine wpList_load_mid rfl 147 _ rfl w.heap.size 0 rfl es _ B1.out.range Tryz.underlying147 rfl hesz.out ?_)
    | (refine wpList_store_row rfl 147 _ _ rfl (w.heap.size+1) es.toArray rfl rfl 147 _ B1.out.out hesz2.out hsame.out S1.out.ones ?_))
   have HOUT:=setRow_heap w1 (w.heap.size+1) _ es.toArray _ _ B1.out.out
   refine bodyPost_ret (results_cell_row rfl _ _ (w.heap.size+1) 147 _ (0,0) _ rfl HOUT Tryz.underlying147 rfl hesz2.out) rfl ?_
   have h4:=S1.out.setRow (q:=w.heap.size+1) (x:=none) (n:=0) (c:=0) (by rw [cell_of_row w1 (w.heap.size+1) 0 _ _ _ B1.out.out];rfl) es.toArray
   have hv:=HV1.out
   rw [List.take_length] at hv
   exact ⟨d1,es,hv,rfl,h4.mono (by simp) (Nat.le_refl _),below_setRow B1.out.low (by omega) _⟩
end Go.Proofs.YtiefeajappjnbaaGreatDoor

/- The reference's scope of an argument (datakitref38.within). -/
namespace Go.Proofs.YtiefeajappjnbaaGreatDoor
open Go.RowKit
structure sf (w u:World) (xs cs zs:List Value) (t:TypeId):Prop where
 row:aj u w.heap.size 0 xs
 sc:aj u (w.heap.size+1) 0 cs
 out:u.heap[w.heap.size+2]?=some (.cells zs.toArray t (0,0))
 low:Below w.heap.size w u
 size:w.heap.size+3≤u.heap.size
theorem sf.start (w:World) (xs cs zs:List Value) (tx t:TypeId):sf w (((w.alloc (.cells xs.toArray tx)).alloc (.cells cs.toArray t)).alloc (.cells zs.toArray t)) xs cs zs t:=by
 have s1:(w.alloc (.cells xs.toArray tx)).heap.size=w.heap.size+1:=World.size_alloc _ _
 have s2:((w.alloc (.cells xs.toArray tx)).alloc (.cells cs.toArray t)).heap.size=w.heap.size+2:=by rw [World.size_alloc,s1]
 refine ⟨?_,?_,?_,ae (ae (af w _) (af _ _)) (af _ _),by rw [World.size_alloc,s2];omega⟩
 ·exact ((aA w xs tx).then (af _ _) (by rw [s1];omega)).then (af _ _) (by rw [s2];omega)
 ·have h:=(aA (w.alloc (.cells xs.toArray tx)) cs t).then (af _ (.cells zs.toArray t)) (by rw [s2,s1];omega)
  rw [s1] at h
  exact h
 ·have h:=heap_alloc_new ((w.alloc (.cells xs.toArray tx)).alloc (.cells cs.toArray t)) (.cells zs.toArray t)
  rw [s2] at h
  exact h
theorem sf.below {w u u':World} {xs cs zs:List Value} {t:TypeId} (h:sf w u xs cs zs t) (hb:Below u.heap.size u u'):sf w u' xs cs zs t :=
 ⟨h.row.then hb (by have:=h.size;omega),h.sc.then hb (by have:=h.size;omega),(hb.block _ (by have:=h.size;omega)).trans h.out,ae h.low hb,Nat.le_trans h.size hb.size⟩
theorem gd {op:Int} {nm:ByteArray} {i:Nat} (h:(op=22∧i=1)∨(op=19∧i=2)∨(op=20∧2≤i)):uE op nm i=[nm]:=by unfold uE;rw [if_pos h]
theorem dS {op:Int} {nm:ByteArray} {i:Nat} (h:¬ ((op=22∧i=1)∨(op=19∧i=2)∨(op=20∧2≤i))):uE op nm i=[]:=by unfold uE;rw [if_neg h]
set_option maxRecDepth 100000 in
set_option maxHeartbeats 6400000 in
theorem oV (x:ag) (xs:List Value) (i:Nat) (d:ScD) (cs:List Value) (w:World) (lo B C N:Nat) (hC:C≤536870912) (hN:N≤268435456) (hi:i≤N) (hB:B≤w.heap.size) (hlo:lo≤w.heap.size) (h:ScD.At w lo B C d cs) (hx:ag.At w B N x xs) :
 Calls Tryz.prog 129 #[.agg xs.toArray,.int .i64 i,.agg cs.toArray] w (ScW lo (C+N+1) (d.wit x i) w):=by
 obtain ⟨aa,fa,ac,fc,vs,hh⟩:=hx.has
 have c0:=hh.op
 have c1:=hh.name
 have c16:=hh.funcs
 have hfl:x.funcs.length≤N:=hh.own.2.2.2
 have HU:=Hd hh.atFuncs
 have HS:=Hd (h.mono (B':=w.heap.size) (K':=C) hB (Nat.le_refl _))
 have hlen:=h.len
 have hsz:=Hd (show (Tryz.prog.info? 134).map (·.size)=some cs.length by rw [hlen];kernel_rfl)
 have hsz2:=Hd (show (Tryz.prog.info? 134).map (·.size)=some cs.toArray.size by rw [List.size_toArray,hlen];kernel_rfl)
 have hsame0:=Hd (show cn.toArray.size=cs.toArray.size by rw [List.size_toArray,List.size_toArray,hlen];rfl)
 have B0:=Hd (sf.start w xs cs cn 34 134)
 clear hh hx h hlen
 have hcase:(x.op=22∧i=1)∨(x.op=19∧i=2)∨(x.op=20∧2≤i)∨(x.op=26)∨(x.op=23)∨(x.op=22∧i≠1)∨(x.op=19∧i≠2)∨(x.op=20∧i<2)∨(x.op≠22∧x.op≠19∧x.op≠20∧x.op≠26∧x.op≠23):=by omega
 have hzc:=Hd (show ∀ u:World,u.heap[w.heap.size+2]?=some (.cells cn.toArray 134 (0,0))→u.cell? ⟨w.heap.size+2,0,none⟩=some (.slice none 0 0) from fun u hu=>by rw [cell_of_row u (w.heap.size+2) 0 _ _ _ hu];rfl)
 have hzs:=Hd (show ∀ (u:World) (K:Nat) (d3:ScD) (es:List Value),ScD.At u lo u.heap.size K d3 es→(Tryz.prog.info? 134).map (·.size)=some es.toArray.size∧cn.toArray.size=es.toArray.size from fun u K d3 es h=>by
  rw [List.size_toArray,h.len];exact ⟨by kernel_rfl,rfl⟩)
 have HS0:=Hd ((HS.out.keep (a7.of_below B0.out.low)).mono (B':=w.heap.size+3) (K':=C) (by omega) (Nat.le_refl _))
 rcases hcase with h | h | h | h | h | h | h | h | h
 case inl =>
  obtain  ⟨ho,rfl⟩:=h
  have HD:=Hd (d.wit_no (x:=x) (i:=1) (show x.op≠23 by omega))
  rw [ho] at HD
  have HV:=Hd (gd (nm:=x.name) (.inl ⟨ho,rfl⟩))
  rw [ho] at c0
  rw [ho] at HV
  clear ho
  have e0:=B0.out.row.get0 c0
  have e1:=B0.out.row.get0 c1
  go_enter Tryz.func129,Tryz.ntmps129
  go_wp2_with (refine wpList_load_mid rfl 134 _ rfl (w.heap.size+1) 0 rfl cs _ B0.out.sc.range Tryz.underlying134 rfl hsz.out ?_)
  refine ((gm d x.name cs _ lo w.heap.size C (by omega) (by have:=B0.out.size;omega) (by have:=B0.out.size;omega) (HS.out.keep (a7.of_below B0.out.low))).mono fun e w' h=>h.v (C':=C+N+1) (by omega)).mono ?_
  rintro e w3 ⟨d3,es3,hv3,rfl,hs3,hb3⟩
  have B3:=Hd (B0.out.below hb3)
  have S3:=Hd hs3
  have HV3:=Hd hv3
  have HZ3:=Hd (hzs.out _ _ _ _ hs3)
  clear hs3 hb3 hv3
  go_wp2_with (refine wpList_store_row rfl 134 _ _ rfl (w.heap.size+1+1) es3.toArray rfl rfl 134 _ B3.out.out HZ3.out.1 HZ3.out.2 S3.out.ones ?_)
  have HOUT:=setRow_heap w3 (w.heap.size+2) _ es3.toArray _ _ B3.out.out
  refine bodyPost_ret (results_cell_row rfl _ _ (w.heap.size+1+1) 134 _ (0,0) _ rfl HOUT Tryz.underlying134 rfl HZ3.out.1) rfl ?_
  have h4:=S3.out.setRow (hzc.out _ B3.out.out) es3.toArray
  exact ⟨d3,es3,by rw [HV3.out,HD.out];simp [ScD.inn,HV.out,gO],rfl,h4.mono (by simp) (by omega),below_setRow B3.out.low (by omega) _⟩
 case inr.inl =>
  obtain  ⟨ho,rfl⟩:=h
  have HD:=Hd (d.wit_no (x:=x) (i:=2) (show x.op≠23 by omega))
  rw [ho] at HD
  have HV:=Hd (gd (nm:=x.name) (.inr (.inl ⟨ho,rfl⟩)))
  rw [ho] at c0
  rw [ho] at HV
  clear ho
  have e0:=B0.out.row.get0 c0
  have e1:=B0.out.row.get0 c1
  go_enter Tryz.func129,Tryz.ntmps129
  go_wp2_with (refine wpList_load_mid rfl 134 _ rfl (w.heap.size+1) 0 rfl cs _ B0.out.sc.range Tryz.underlying134 rfl hsz.out ?_)
  refine ((gm d x.name cs _ lo w.heap.size C (by omega) (by have:=B0.out.size;omega) (by have:=B0.out.size;omega) (HS.out.keep (a7.of_below B0.out.low))).mono fun e w' h=>h.v (C':=C+N+1) (by omega)).mono ?_
  rintro e w3 ⟨d3,es3,hv3,rfl,hs3,hb3⟩
  have B3:=Hd (B0.out.below hb3)
  have S3:=Hd hs3
  have HV3:=Hd hv3
  have HZ3:=Hd (hzs.out _ _ _ _ hs3)
  clear hs3 hb3 hv3
  go_wp2_with (refine wpList_store_row rfl 134 _ _ rfl (w.heap.size+1+1) es3.toArray rfl rfl 134 _ B3.out.out HZ3.out.1 HZ3.out.2 S3.out.ones ?_)
  have HOUT:=setRow_heap w3 (w.heap.size+2) _ es3.toArray _ _ B3.out.out
  refine bodyPost_ret (results_cell_row rfl _ _ (w.heap.size+1+1) 134 _ (0,0) _ rfl HOUT Tryz.underlying134 rfl HZ3.out.1) rfl ?_
  have h4:=S3.out.setRow (hzc.out _ B3.out.out) es3.toArray
  exact ⟨d3,es3,by rw [HV3.out,HD.out];simp [ScD.inn,HV.out,gO],rfl,h4.mono (by simp) (by omega),below_setRow B3.out.low (by omega) _⟩
 case inr.inr.inl =>
  obtain ⟨ho,h2⟩:=h
  have HD:=Hd (d.wit_no (x:=x) (i:=i) (show x.op≠23 by omega))
  rw [ho] at HD
  have HV:=Hd (gd (nm:=x.name) (.inr (.inr ⟨ho,h2⟩)))
  rw [ho] at c0
  rw [ho] at HV
  clear ho
  have h2':(2:Int)≤(i:Int):=by omega
  have e0:=B0.out.row.get0 c0
  have e1:=B0.out.row.get0 c1
  go_enter Tryz.func129,Tryz.ntmps129
  go_wp2_with (refine wpList_load_mid rfl 134 _ rfl (w.heap.size+1) 0 rfl cs _ B0.out.sc.range Tryz.underlying134 rfl hsz.out ?_)
  refine ((gm d x.name cs _ lo w.heap.size C (by omega) (by have:=B0.out.size;omega) (by have:=B0.out.size;omega) (HS.out.keep (a7.of_below B0.out.low))).mono fun e w' h=>h.v (C':=C+N+1) (by omega)).mono ?_
  rintro e w3 ⟨d3,es3,hv3,rfl,hs3,hb3⟩
  have B3:=Hd (B0.out.below hb3)
  have S3:=Hd hs3
  have HV3:=Hd hv3
  have HZ3:=Hd (hzs.out _ _ _ _ hs3)
  clear hs3 hb3 hv3
  go_wp2_with (refine wpList_store_row rfl 134 _ _ rfl (w.heap.size+1+1) es3.toArray rfl rfl 134 _ B3.out.out HZ3.out.1 HZ3.out.2 S3.out.ones ?_)
  have HOUT:=setRow_heap w3 (w.heap.size+2) _ es3.toArray _ _ B3.out.out
  refine bodyPost_ret (results_cell_row rfl _ _ (w.heap.size+1+1) 134 _ (0,0) _ rfl HOUT Tryz.underlying134 rfl HZ3.out.1) rfl ?_
  have h4:=S3.out.setRow (hzc.out _ B3.out.out) es3.toArray
  exact ⟨d3,es3,by rw [HV3.out,HD.out];simp [ScD.inn,HV.out,gO],rfl,h4.mono (by simp) (by omega),below_setRow B3.out.low (by omega) _⟩
 case inr.inr.inr.inl =>
  have ho:x.op=26:=h
  clear h
  have HD:=Hd (d.wit_no (x:=x) (i:=i) (show x.op≠23 by omega))
  rw [ho] at HD
  have HV:=Hd (dS (op:=x.op) (nm:=x.name) (i:=i) (by omega))
  rw [ho] at c0
  rw [ho] at HV
  clear ho
  have e0:=B0.out.row.get0 c0
  have e1:=B0.out.row.get0 c1
  go_enter Tryz.func129,Tryz.ntmps129
  go_wp2_with (refine wpList_load_mid rfl 134 _ rfl (w.heap.size+1) 0 rfl cs _ B0.out.sc.range Tryz.underlying134 rfl hsz.out ?_)
  refine ((zP d x.name cs _ lo w.heap.size C (by omega) (by have:=B0.out.size;omega) (by have:=B0.out.size;omega) (HS.out.keep (a7.of_below B0.out.low))).mono fun e w' h=>h.v (C':=C+N+1) (by omega)).mono ?_
  rintro e w3 ⟨d3,es3,hv3,rfl,hs3,hb3⟩
  have B3:=Hd (B0.out.below hb3)
  have S3:=Hd hs3
  have HV3:=Hd hv3
  have HZ3:=Hd (hzs.out _ _ _ _ hs3)
  clear hs3 hb3 hv3
  go_wp2_with (refine wpList_store_row rfl 134 _ _ rfl (w.heap.size+1+1) es3.toArray rfl rfl 134 _ B3.out.out HZ3.out.1 HZ3.out.2 S3.out.ones ?_)
  have HOUT:=setRow_heap w3 (w.heap.size+2) _ es3.toArray _ _ B3.out.out
  refine bodyPost_ret (results_cell_row rfl _ _ (w.heap.size+1+1) 134 _ (0,0) _ rfl HOUT Tryz.underlying134 rfl HZ3.out.1) rfl ?_
  have h4:=S3.out.setRow (hzc.out _ B3.out.out) es3.toArray
  exact ⟨d3,es3,by rw [HV3.out,HD.out];simp [ScD.inn,HV.out,gO],rfl,h4.mono (by simp) (by omega),below_setRow B3.out.low (by omega) _⟩
 case inr.inr.inr.inr.inl =>
  have ho:x.op=23:=h
  clear h
  have HD:=Hd (d.wit_def (i:=i) ho)
  have HV:=Hd (dS (op:=x.op) (nm:=x.name) (i:=i) (by omega))
  rw [ho] at c0
  rw [ho] at HV
  clear ho
  have e0:=B0.out.row.get0 c0
  have e1:=B0.out.row.get0 c1
  have e16:=B0.out.row.get0 c16
  go_enter Tryz.func129,Tryz.ntmps129
  go_wp2_with (refine wpList_load_mid rfl 134 _ rfl (w.heap.size+1) 0 rfl cs _ B0.out.sc.range Tryz.underlying134 rfl hsz.out ?_)
  refine ((ia x.funcs fa fc d cs _ lo w.heap.size C N hC (by omega) hfl (by have:=B0.out.size;omega) (by have:=B0.out.size;omega) (HS.out.keep (a7.of_below B0.out.low)) (av.mono hB _ (av.below (B0.out.low.mono hB) _ HU.out))).mono fun e w' h=>h.v (C':=C+N+1) (by omega)).mono ?_
  rintro e w3 ⟨d3,es3,hv3,rfl,hs3,hb3⟩
  have B3:=Hd (B0.out.below hb3)
  have S3:=Hd hs3
  have HV3:=Hd hv3
  have HZ3:=Hd (hzs.out _ _ _ _ hs3)
  clear hs3 hb3 hv3
  go_wp2_with (refine wpList_store_row rfl 134 _ _ rfl (w.heap.size+1+1) es3.toArray rfl rfl 134 _ B3.out.out HZ3.out.1 HZ3.out.2 S3.out.ones ?_)
  have HOUT:=setRow_heap w3 (w.heap.size+2) _ es3.toArray _ _ B3.out.out
  refine bodyPost_ret (results_cell_row rfl _ _ (w.heap.size+1+1) 134 _ (0,0) _ rfl HOUT Tryz.underlying134 rfl HZ3.out.1) rfl ?_
  have h4:=S3.out.setRow (hzc.out _ B3.out.out) es3.toArray
  exact ⟨d3,es3,by rw [HV3.out,HD.out];rfl,rfl,h4.mono (by simp) (by omega),below_setRow B3.out.low (by omega) _⟩
 case inr.inr.inr.inr.inr.inl =>
  obtain ⟨ho,h2⟩:=h
  have HD:=Hd (d.wit_no (x:=x) (i:=i) (show x.op≠23 by omega))
  rw [ho] at HD
  have HV:=Hd (dS (op:=x.op) (nm:=x.name) (i:=i) (by omega))
  rw [ho] at c0
  rw [ho] at HV
  clear ho
  have h2':((i:Int)==1)=false:=by simp;omega
  clear h2
  have e0:=B0.out.row.get0 c0
  have e1:=B0.out.row.get0 c1
  go_enter Tryz.func129,Tryz.ntmps129
  go_wp2_with (first
   | (refine wpList_load_mid rfl 134 _ rfl (w.heap.size+1) 0 rfl cs _ B0.out.sc.range Tryz.underlying134 rfl hsz.out ?_)
   | (refine wpList_store_row rfl 134 _ _ rfl (w.heap.size+1+1) cs.toArray rfl rfl 134 _ B0.out.out hsz2.out hsame0.out HS.out.ones ?_))
  have HOUT:=setRow_heap _ (w.heap.size+2) _ cs.toArray _ _ B0.out.out
  refine bodyPost_ret (results_cell_row rfl _ _ (w.heap.size+1+1) 134 _ (0,0) _ rfl HOUT Tryz.underlying134 rfl hsz2.out) rfl ?_
  have h4:=HS0.out.setRow (hzc.out _ B0.out.out) cs.toArray
  exact ⟨d,cs,by rw [HD.out];simp [ScD.inn,HV.out,gO],rfl,h4.mono (by simp) (by omega),below_setRow B0.out.low (by omega) _⟩
 case inr.inr.inr.inr.inr.inr.inl =>
  obtain ⟨ho,h2⟩:=h
  have HD:=Hd (d.wit_no (x:=x) (i:=i) (show x.op≠23 by omega))
  rw [ho] at HD
  have HV:=Hd (dS (op:=x.op) (nm:=x.name) (i:=i) (by omega))
  rw [ho] at c0
  rw [ho] at HV
  clear ho
  have h2':((i:Int)==2)=false:=by simp;omega
  clear h2
  have e0:=B0.out.row.get0 c0
  have e1:=B0.out.row.get0 c1
  go_enter Tryz.func129,Tryz.ntmps129
  go_wp2_with (first
   | (refine wpList_load_mid rfl 134 _ rfl (w.heap.size+1) 0 rfl cs _ B0.out.sc.range Tryz.underlying134 rfl hsz.out ?_)
   | (refine wpList_store_row rfl 134 _ _ rfl (w.heap.size+1+1) cs.toArray rfl rfl 134 _ B0.out.out hsz2.out hsame0.out HS.out.ones ?_))
  have HOUT:=setRow_heap _ (w.heap.size+2) _ cs.toArray _ _ B0.out.out
  refine bodyPost_ret (results_cell_row rfl _ _ (w.heap.size+1+1) 134 _ (0,0) _ rfl HOUT Tryz.underlying134 rfl hsz2.out) rfl ?_
  have h4:=HS0.out.setRow (hzc.out _ B0.out.out) cs.toArray
  exact ⟨d,cs,by rw [HD.out];simp [ScD.inn,HV.out,gO],rfl,h4.mono (by simp) (by omega),below_setRow B0.out.low (by omega) _⟩
 case inr.inr.inr.inr.inr.inr.inr.inl =>
  obtain ⟨ho,h2⟩:=h
  have HD:=Hd (d.wit_no (x:=x) (i:=i) (show x.op≠23 by omega))
  rw [ho] at HD
  have HV:=Hd (dS (op:=x.op) (nm:=x.name) (i:=i) (by omega))
  rw [ho] at c0
  rw [ho] at HV
  clear ho
  have h2':¬ (2:Int)≤(i:Int):=by omega
  clear h2
  have e0:=B0.out.row.get0 c0
  have e1:=B0.out.row.get0 c1
  go_enter Tryz.func129,Tryz.ntmps129
  go_wp2_with (first
   | (refine wpList_load_mid rfl 134 _ rfl (w.heap.size+1) 0 rfl cs _ B0.out.sc.range Tryz.underlying134 rfl hsz.out ?_)
   | (refine wpList_store_row rfl 134 _ _ rfl (w.heap.size+1+1) cs.toArray rfl rfl 134 _ B0.out.out hsz2.out hsame0.out HS.out.ones ?_))
  have HOUT:=setRow_heap _ (w.heap.size+2) _ cs.toArray _ _ B0.out.out
  refine bodyPost_ret (results_cell_row rfl _ _ (w.heap.size+1+1) 134 _ (0,0) _ rfl HOUT Tryz.underlying134 rfl hsz2.out) rfl ?_
  have h4:=HS0.out.setRow (hzc.out _ B0.out.out) cs.toArray
  exact ⟨d,cs,by rw [HD.out];simp [ScD.inn,HV.out,gO],rfl,h4.mono (by simp) (by omega),below_setRow B0.out.low (by omega) _⟩
 case inr.inr.inr.inr.inr.inr.inr.inr =>
  obtain ⟨h22,h19,h20,h26,h23⟩:=h
  have HV:=Hd (dS (op:=x.op) (nm:=x.name) (i:=i) (by omega))
  have q22:(x.op==22)=false:=by simpa using h22
  have q19:(x.op==19)=false:=by simpa using h19
  have q20:(x.op==20)=false:=by simpa using h20
  have q26:(x.op==26)=false:=by simpa using h26
  have q23:(x.op==23)=false:=by simpa using h23
  have HL:=Hd (sY (nm:=x.name) h26)
  have HD:=Hd (d.wit_no (x:=x) (i:=i) h23)
  clear h22 h19 h20 h26 h23
  have e0:=B0.out.row.get0 c0
  have e1:=B0.out.row.get0 c1
  go_enter Tryz.func129,Tryz.ntmps129
  go_wp2_with (first
   | (refine wpList_load_mid rfl 134 _ rfl (w.heap.size+1) 0 rfl cs _ B0.out.sc.range Tryz.underlying134 rfl hsz.out ?_)
   | (refine wpList_store_row rfl 134 _ _ rfl (w.heap.size+1+1) cs.toArray rfl rfl 134 _ B0.out.out hsz2.out hsame0.out HS.out.ones ?_))
  have HOUT:=setRow_heap _ (w.heap.size+2) _ cs.toArray _ _ B0.out.out
  refine bodyPost_ret (results_cell_row rfl _ _ (w.heap.size+1+1) 134 _ (0,0) _ rfl HOUT Tryz.underlying134 rfl hsz2.out) rfl ?_
  have h4:=HS0.out.setRow (hzc.out _ B0.out.out) cs.toArray
  exact ⟨d,cs,by rw [HD.out];simp [ScD.inn,HV.out,HL.out],rfl,h4.mono (by simp) (by omega),below_setRow B0.out.low (by omega) _⟩
end Go.Proofs.YtiefeajappjnbaaGreatDoor

/- The program's scope of an argument (module.inner). -/
namespace Go.Proofs.YtiefeajappjnbaaGreatDoor
open Go.RowKit
structure iY (w u:World) (xs cs zs:List Value) (t:TypeId):Prop where
 row:aj u w.heap.size 0 xs
 box:u.heap[w.heap.size+1]?=some (.cells cs.toArray t (0,0))
 out:u.heap[w.heap.size+2]?=some (.cells zs.toArray t (0,0))
 low:Below w.heap.size w u
 size:w.heap.size+3≤u.heap.size
theorem iY.start (w:World) (xs cs zs:List Value) (tx t:TypeId):iY w (((w.alloc (.cells xs.toArray tx)).alloc (.cells cs.toArray t)).alloc (.cells zs.toArray t)) xs cs zs t:=by
 have h:=sf.start w xs cs zs tx t
 have s1:(w.alloc (.cells xs.toArray tx)).heap.size=w.heap.size+1:=World.size_alloc _ _
 have s2:((w.alloc (.cells xs.toArray tx)).alloc (.cells cs.toArray t)).heap.size=w.heap.size+2:=by rw [World.size_alloc,s1]
 refine ⟨h.row,?_,h.out,h.low,h.size⟩
 have h2:=heap_alloc_new (w.alloc (.cells xs.toArray tx)) (.cells cs.toArray t)
 rw [s1] at h2
 exact (heap_alloc_old _ _ (by rw [s2];omega)).trans h2
theorem iY.below {w u u':World} {xs cs zs:List Value} {t:TypeId} (h:iY w u xs cs zs t) (hb:Below u.heap.size u u'):iY w u' xs cs zs t :=
 ⟨h.row.then hb (by have:=h.size;omega),(hb.block _ (by have:=h.size;omega)).trans h.box,(hb.block _ (by have:=h.size;omega)).trans h.out,ae h.low hb,Nat.le_trans h.size hb.size⟩
theorem iY.cell {w u:World} {xs cs zs:List Value} {t:TypeId} (h:iY w u xs cs zs t) {j:Nat} {v:Value} (hv:cs[j]?=some v):u.cell? ⟨w.heap.size+1,j,none⟩=some v:=by
 rw [cell_of_row u (w.heap.size+1) j _ _ _ h.box];simpa using hv
theorem iY.frozen {w u:World} {xs cs zs:List Value} {t:TypeId} (h:iY w u xs cs zs t) (j:Nat):u.frozen? ⟨w.heap.size+1,j,none⟩=false:=frozen_of_row u (w.heap.size+1) j _ _ h.box
theorem iY.range {w u:World} {xs cs zs:List Value} {t:TypeId} (h:iY w u xs cs zs t):u.rangeAt (w.heap.size+1) 0 cs:=fun j v hv=>by rw [Nat.zero_add];exact h.cell hv
theorem iY.setCell {w u:World} {xs cs zs:List Value} {t:TypeId} (h:iY w u xs cs zs t) (j:Nat) (v:Value):iY w (u.setCell ⟨w.heap.size+1,j,none⟩ v) xs (cs.set j v) zs t:=by
 refine ⟨fun k hk=>?_,?_,(heap_setCell_other _ _ _ _ (by simp)).trans h.out,h.low.setCell (by show w.heap.size≤w.heap.size+1;omega) v,by have:=h.size;simpa using this⟩
 ·rw [← h.row k hk]
  simp only [World.cell?]
  rw [heap_setCell_other _ _ _ _ (by simp)]
 ·rw [heap_setCell_same u (w.heap.size+1) j _ _ _ h.box]
  simp
set_option maxRecDepth 100000 in
set_option maxHeartbeats 6400000 in
theorem sX (x:ag) (xs:List Value) (i:Nat) (d:ScD) (cs:List Value) (w:World) (lo B C N:Nat) (hC:C≤268435456) (hi:i≤N) (h19:x.op=19→i≤2) (hB:B≤w.heap.size) (hlo:lo≤w.heap.size) (h:ScD.At w lo B C d cs) (hx:ag.At w B N x xs) :
 Calls Tryz.prog 141 #[.agg xs.toArray,.int .i64 i,.agg cs.toArray] w (ScW lo (C+1) (d.inn x.op x.name i) w):=by
 obtain ⟨aa,fa,ac,fc,vs,hh⟩:=hx.has
 have c0:=hh.op
 have c1:=hh.name
 have HS:=Hd (h.mono (B':=w.heap.size) (K':=C) hB (Nat.le_refl _))
 have hlen:=h.len
 have hsz:=Hd (show (Tryz.prog.info? 147).map (·.size)=some cs.length by rw [hlen];kernel_rfl)
 have hsz2:=Hd (show (Tryz.prog.info? 147).map (·.size)=some cs.toArray.size by rw [List.size_toArray,hlen];kernel_rfl)
 have hsame0:=Hd (show cn.toArray.size=cs.toArray.size by rw [List.size_toArray,List.size_toArray,hlen];rfl)
 have B0:=Hd (iY.start w xs cs cn 34 147)
 clear hh hx h hlen
 have hcase:(x.op=22∧i=1)∨(x.op=19∧i=2)∨(x.op=20∧2≤i)∨(x.op=26)∨(x.op=22∧i≠1)∨(x.op=19∧i<2)∨(x.op=20∧i<2)∨(x.op≠22∧x.op≠19∧x.op≠20∧x.op≠26):=by
  by_cases h:x.op=19
  ·have:=h19 h;omega
  ·omega
 clear h19
 have hzc:=Hd (show ∀ u:World,u.heap[w.heap.size+2]?=some (.cells cn.toArray 147 (0,0))→u.cell? ⟨w.heap.size+2,0,none⟩=some (.slice none 0 0) from fun u hu=>by rw [cell_of_row u (w.heap.size+2) 0 _ _ _ hu];rfl)
 have hzs:=Hd (show ∀ (u:World) (K:Nat) (d3:ScD) (es:List Value),ScD.At u lo u.heap.size K d3 es→(Tryz.prog.info? 147).map (·.size)=some es.toArray.size∧cn.toArray.size=es.toArray.size from fun u K d3 es h=>by
  rw [List.size_toArray,h.len];exact ⟨by kernel_rfl,rfl⟩)
 have HS0:=Hd ((HS.out.keep (a7.of_below B0.out.low)).mono (B':=w.heap.size+3) (K':=C) (by omega) (Nat.le_refl _))
 rcases hcase with h | h | h | h | h | h | h | h
 case inl =>
  obtain ⟨ho,rfl⟩:=h
  have HV:=Hd (gd (nm:=x.name) (.inl ⟨ho,rfl⟩))
  rw [ho] at c0 ⊢
  rw [ho] at HV
  clear ho
  have e0:=B0.out.row.get0 c0
  have e1:=B0.out.row.get0 c1
  go_enter Tryz.func141,Tryz.ntmps141
  go_wp2_with (refine wpList_load_mid rfl 147 _ rfl (w.heap.size+1) 0 rfl cs _ B0.out.range Tryz.underlying147 rfl hsz.out ?_)
  refine (gn d x.name cs _ lo w.heap.size C (by omega) (by have:=B0.out.size;omega) (by have:=B0.out.size;omega) (HS.out.keep (a7.of_below B0.out.low))).mono ?_
  rintro e w3 ⟨d3,es3,hv3,rfl,hs3,hb3⟩
  have B3:=Hd (B0.out.below hb3)
  have S3:=Hd hs3
  have HV3:=Hd hv3
  have HZ3:=Hd (hzs.out _ _ _ _ hs3)
  clear hs3 hb3 hv3
  go_wp2_with (refine wpList_store_row rfl 147 _ _ rfl (w.heap.size+1+1) es3.toArray rfl rfl 147 _ B3.out.out HZ3.out.1 HZ3.out.2 S3.out.ones ?_)
  have HOUT:=setRow_heap w3 (w.heap.size+2) _ es3.toArray _ _ B3.out.out
  refine bodyPost_ret (results_cell_row rfl _ _ (w.heap.size+1+1) 147 _ (0,0) _ rfl HOUT Tryz.underlying147 rfl HZ3.out.1) rfl ?_
  have h4:=S3.out.setRow (hzc.out _ B3.out.out) es3.toArray
  exact ⟨d3,es3,by rw [HV3.out];simp [ScD.inn,HV.out,gO],rfl,h4.mono (by simp) (by omega),below_setRow B3.out.low (by omega) _⟩
 case inr.inl =>
  obtain ⟨ho,rfl⟩:=h
  have HV:=Hd (gd (nm:=x.name) (.inr (.inl ⟨ho,rfl⟩)))
  rw [ho] at c0 ⊢
  rw [ho] at HV
  clear ho
  have e0:=B0.out.row.get0 c0
  have e1:=B0.out.row.get0 c1
  go_enter Tryz.func141,Tryz.ntmps141
  go_wp2_with (refine wpList_load_mid rfl 147 _ rfl (w.heap.size+1) 0 rfl cs _ B0.out.range Tryz.underlying147 rfl hsz.out ?_)
  refine (gn d x.name cs _ lo w.heap.size C (by omega) (by have:=B0.out.size;omega) (by have:=B0.out.size;omega) (HS.out.keep (a7.of_below B0.out.low))).mono ?_
  rintro e w3 ⟨d3,es3,hv3,rfl,hs3,hb3⟩
  have B3:=Hd (B0.out.below hb3)
  have S3:=Hd hs3
  have HV3:=Hd hv3
  have HZ3:=Hd (hzs.out _ _ _ _ hs3)
  clear hs3 hb3 hv3
  go_wp2_with (refine wpList_store_row rfl 147 _ _ rfl (w.heap.size+1+1) es3.toArray rfl rfl 147 _ B3.out.out HZ3.out.1 HZ3.out.2 S3.out.ones ?_)
  have HOUT:=setRow_heap w3 (w.heap.size+2) _ es3.toArray _ _ B3.out.out
  refine bodyPost_ret (results_cell_row rfl _ _ (w.heap.size+1+1) 147 _ (0,0) _ rfl HOUT Tryz.underlying147 rfl HZ3.out.1) rfl ?_
  have h4:=S3.out.setRow (hzc.out _ B3.out.out) es3.toArray
  exact ⟨d3,es3,by rw [HV3.out];simp [ScD.inn,HV.out,gO],rfl,h4.mono (by simp) (by omega),below_setRow B3.out.low (by omega) _⟩
 case inr.inr.inl =>
  obtain ⟨ho,h2⟩:=h
  have HV:=Hd (gd (nm:=x.name) (.inr (.inr ⟨ho,h2⟩)))
  rw [ho] at c0 ⊢
  rw [ho] at HV
  clear ho
  have h2':(2:Int)≤(i:Int):=by omega
  have e0:=B0.out.row.get0 c0
  have e1:=B0.out.row.get0 c1
  go_enter Tryz.func141,Tryz.ntmps141
  go_wp2_with (refine wpList_load_mid rfl 147 _ rfl (w.heap.size+1) 0 rfl cs _ B0.out.range Tryz.underlying147 rfl hsz.out ?_)
  refine (gn d x.name cs _ lo w.heap.size C (by omega) (by have:=B0.out.size;omega) (by have:=B0.out.size;omega) (HS.out.keep (a7.of_below B0.out.low))).mono ?_
  rintro e w3 ⟨d3,es3,hv3,rfl,hs3,hb3⟩
  have B3:=Hd (B0.out.below hb3)
  have S3:=Hd hs3
  have HV3:=Hd hv3
  have HZ3:=Hd (hzs.out _ _ _ _ hs3)
  clear hs3 hb3 hv3
  go_wp2_with (refine wpList_store_row rfl 147 _ _ rfl (w.heap.size+1+1) es3.toArray rfl rfl 147 _ B3.out.out HZ3.out.1 HZ3.out.2 S3.out.ones ?_)
  have HOUT:=setRow_heap w3 (w.heap.size+2) _ es3.toArray _ _ B3.out.out
  refine bodyPost_ret (results_cell_row rfl _ _ (w.heap.size+1+1) 147 _ (0,0) _ rfl HOUT Tryz.underlying147 rfl HZ3.out.1) rfl ?_
  have h4:=S3.out.setRow (hzc.out _ B3.out.out) es3.toArray
  exact ⟨d3,es3,by rw [HV3.out];simp [ScD.inn,HV.out,gO],rfl,h4.mono (by simp) (by omega),below_setRow B3.out.low (by omega) _⟩
 case inr.inr.inr.inl =>
  have ho:x.op=26:=h
  clear h
  have HV:=Hd (dS (op:=x.op) (nm:=x.name) (i:=i) (by omega))
  rw [ho] at c0 ⊢
  rw [ho] at HV
  clear ho
  have e0:=B0.out.row.get0 c0
  have e1:=B0.out.row.get0 c1
  obtain ⟨va,la,ga,vc,lc,gc,rfl,hv,hls,hg,k1,k2,k3⟩:=HS.out
  have HLV:=Hd hv
  have HLL:=Hd hls
  have HLG:=Hd hg
  have K1:=Hd k1
  have K2:=Hd k2
  have K3:=Hd k3
  have e2:=B0.out.cell (j:=1) (v:=.slice la d.ls.length lc) rfl
  clear hv hls hg k1 k2 k3
  go_enter Tryz.func141,Tryz.ntmps141
  go_wp2_with fail
  refine (vE d.ls x.name la lc _ lo lo w.heap.size (by have:=K2.out;omega) (by have:=B0.out.size;omega) (HLL.out.keep (a7.of_below B0.out.low))).mono ?_
  rintro e u1 ⟨a1,c1',rfl,_,_,hn1,hb1⟩
  have B1:=Hd (B0.out.below hb1)
  have N1:=Hd hn1
  obtain ⟨m1,hm1⟩:∃ m,(d.ls++[x.name]).length=m:=⟨_,rfl⟩
  have HM1:=Hd hm1
  rw [hm1]
  clear hn1 hb1 hm1 e0 e1 e2
  have z1:=B1.out.cell (j:=1) (v:=.slice la d.ls.length lc) rfl
  have f1:=B1.out.frozen 1
  have B2:=Hd (show iY w (u1.setCell ⟨w.heap.size+1,1,none⟩ (.slice a1 m1 c1')) xs [.slice va d.vs.length vc,.slice a1 m1 c1',.slice ga d.gs.length gc] cn 147 from B1.out.setCell 1 (.slice a1 m1 c1'))
  go_wp2_with (first
   | (refine wpList_load_mid rfl 147 _ rfl (w.heap.size+1) 0 rfl [.slice va d.vs.length vc,.slice a1 m1 c1',.slice ga d.gs.length gc] _ B2.out.range Tryz.underlying147 rfl (by kernel_rfl) ?_)
   | (refine wpList_store_row rfl 147 _ _ rfl (w.heap.size+1+1) #[.slice va d.vs.length vc,.slice a1 m1 c1',.slice ga d.gs.length gc] rfl rfl 147 _ B2.out.out (by kernel_rfl) rfl (uv ..) ?_))
  have HOUT:=setRow_heap (u1.setCell ⟨w.heap.size+1,1,none⟩ (.slice a1 m1 c1')) (w.heap.size+2) _ #[.slice va d.vs.length vc,.slice a1 m1 c1',.slice ga d.gs.length gc] _ _ B2.out.out
  refine bodyPost_ret (results_cell_row rfl _ _ (w.heap.size+1+1) 147 _ (0,0) _ rfl HOUT Tryz.underlying147 rfl (by kernel_rfl)) rfl ?_
  have hlow:a7 lo w.heap.size w u1:=a7.of_below B1.out.low
  have hs1:=B1.out.size
  have hz:=B1.out.cell (j:=0) (v:=.slice va d.vs.length vc) rfl
  have A1:ScD.At (u1.setCell ⟨w.heap.size+1,1,none⟩ (.slice a1 m1 c1')) lo u1.heap.size (C+1) ⟨d.vs,d.ls++[x.name],d.gs⟩ [.slice va d.vs.length vc,.slice a1 m1 c1',.slice ga d.gs.length gc]:=by
   refine ⟨va,a1,ga,vc,c1',gc,by rw [HM1.out],((HLV.out.keep hlow).mono (by omega)).setCell hz 1 _,N1.out.setCell hz 1 _,((HLG.out.keep hlow).mono (by omega)).setCell hz 1 _,?_,?_,?_⟩
   ·have h1:=K1.out
    show d.vs.length≤C+1
    omega
   ·have h1:=K2.out
    rw [List.length_append]
    show d.ls.length+1≤C+1
    omega
   ·have h1:=K3.out
    show d.gs.length≤C+1
    omega
  have A2:=A1.setRow (hzc.out _ B2.out.out) #[.slice va d.vs.length vc,.slice a1 m1 c1',.slice ga d.gs.length gc]
  exact ⟨_,[.slice va d.vs.length vc,.slice a1 m1 c1',.slice ga d.gs.length gc],by simp [ScD.inn,HV.out,gO],rfl,A2.mono (by simp) (Nat.le_refl _),below_setRow B2.out.low (by omega) _⟩
 case inr.inr.inr.inr.inl =>
  obtain ⟨ho,h2⟩:=h
  have HV:=Hd (dS (op:=x.op) (nm:=x.name) (i:=i) (by omega))
  rw [ho] at c0 ⊢
  rw [ho] at HV
  clear ho
  have h2':((i:Int)==1)=false:=by simp;omega
  clear h2
  have e0:=B0.out.row.get0 c0
  have e1:=B0.out.row.get0 c1
  go_enter Tryz.func141,Tryz.ntmps141
  go_wp2_with (first
   | (refine wpList_load_mid rfl 147 _ rfl (w.heap.size+1) 0 rfl cs _ B0.out.range Tryz.underlying147 rfl hsz.out ?_)
   | (refine wpList_store_row rfl 147 _ _ rfl (w.heap.size+1+1) cs.toArray rfl rfl 147 _ B0.out.out hsz2.out hsame0.out HS.out.ones ?_))
  have HOUT:=setRow_heap _ (w.heap.size+2) _ cs.toArray _ _ B0.out.out
  refine bodyPost_ret (results_cell_row rfl _ _ (w.heap.size+1+1) 147 _ (0,0) _ rfl HOUT Tryz.underlying147 rfl hsz2.out) rfl ?_
  have h4:=HS0.out.setRow (hzc.out _ B0.out.out) cs.toArray
  exact ⟨d,cs,by simp [ScD.inn,HV.out,gO],rfl,h4.mono (by simp) (by omega),below_setRow B0.out.low (by omega) _⟩
 case inr.inr.inr.inr.inr.inl =>
  obtain ⟨ho,h2⟩:=h
  have HV:=Hd (dS (op:=x.op) (nm:=x.name) (i:=i) (by omega))
  rw [ho] at c0 ⊢
  rw [ho] at HV
  clear ho
  have h2':¬ (2:Int)≤(i:Int):=by omega
  clear h2
  have e0:=B0.out.row.get0 c0
  have e1:=B0.out.row.get0 c1
  go_enter Tryz.func141,Tryz.ntmps141
  go_wp2_with (first
   | (refine wpList_load_mid rfl 147 _ rfl (w.heap.size+1) 0 rfl cs _ B0.out.range Tryz.underlying147 rfl hsz.out ?_)
   | (refine wpList_store_row rfl 147 _ _ rfl (w.heap.size+1+1) cs.toArray rfl rfl 147 _ B0.out.out hsz2.out hsame0.out HS.out.ones ?_))
  have HOUT:=setRow_heap _ (w.heap.size+2) _ cs.toArray _ _ B0.out.out
  refine bodyPost_ret (results_cell_row rfl _ _ (w.heap.size+1+1) 147 _ (0,0) _ rfl HOUT Tryz.underlying147 rfl hsz2.out) rfl ?_
  have h4:=HS0.out.setRow (hzc.out _ B0.out.out) cs.toArray
  exact ⟨d,cs,by simp [ScD.inn,HV.out,gO],rfl,h4.mono (by simp) (by omega),below_setRow B0.out.low (by omega) _⟩
 case inr.inr.inr.inr.inr.inr.inl =>
  obtain ⟨ho,h2⟩:=h
  have HV:=Hd (dS (op:=x.op) (nm:=x.name) (i:=i) (by omega))
  rw [ho] at c0 ⊢
  rw [ho] at HV
  clear ho
  have h2':¬ (2:Int)≤(i:Int):=by omega
  clear h2
  have e0:=B0.out.row.get0 c0
  have e1:=B0.out.row.get0 c1
  go_enter Tryz.func141,Tryz.ntmps141
  go_wp2_with (first
   | (refine wpList_load_mid rfl 147 _ rfl (w.heap.size+1) 0 rfl cs _ B0.out.range Tryz.underlying147 rfl hsz.out ?_)
   | (refine wpList_store_row rfl 147 _ _ rfl (w.heap.size+1+1) cs.toArray rfl rfl 147 _ B0.out.out hsz2.out hsame0.out HS.out.ones ?_))
  have HOUT:=setRow_heap _ (w.heap.size+2) _ cs.toArray _ _ B0.out.out
  refine bodyPost_ret (results_cell_row rfl _ _ (w.heap.size+1+1) 147 _ (0,0) _ rfl HOUT Tryz.underlying147 rfl hsz2.out) rfl ?_
  have h4:=HS0.out.setRow (hzc.out _ B0.out.out) cs.toArray
  exact ⟨d,cs,by simp [ScD.inn,HV.out,gO],rfl,h4.mono (by simp) (by omega),below_setRow B0.out.low (by omega) _⟩
 case inr.inr.inr.inr.inr.inr.inr =>
  obtain ⟨h22,h19,h20,h26⟩:=h
  have HV:=Hd (dS (op:=x.op) (nm:=x.name) (i:=i) (by omega))
  have q22:(x.op==22)=false:=by simpa using h22
  have q19:(x.op==19)=false:=by simpa using h19
  have q20:(x.op==20)=false:=by simpa using h20
  have q26:(x.op==26)=false:=by simpa using h26
  have HL:=Hd (sY (nm:=x.name) h26)
  clear h22 h19 h20 h26
  have e0:=B0.out.row.get0 c0
  have e1:=B0.out.row.get0 c1
  go_enter Tryz.func141,Tryz.ntmps141
  go_wp2_with (first
   | (refine wpList_load_mid rfl 147 _ rfl (w.heap.size+1) 0 rfl cs _ B0.out.range Tryz.underlying147 rfl hsz.out ?_)
   | (refine wpList_store_row rfl 147 _ _ rfl (w.heap.size+1+1) cs.toArray rfl rfl 147 _ B0.out.out hsz2.out hsame0.out HS.out.ones ?_))
  have HOUT:=setRow_heap _ (w.heap.size+2) _ cs.toArray _ _ B0.out.out
  refine bodyPost_ret (results_cell_row rfl _ _ (w.heap.size+1+1) 147 _ (0,0) _ rfl HOUT Tryz.underlying147 rfl hsz2.out) rfl ?_
  have h4:=HS0.out.setRow (hzc.out _ B0.out.out) cs.toArray
  exact ⟨d,cs,by simp [ScD.inn,HV.out,HL.out],rfl,h4.mono (by simp) (by omega),below_setRow B0.out.low (by omega) _⟩
end Go.Proofs.YtiefeajappjnbaaGreatDoor
