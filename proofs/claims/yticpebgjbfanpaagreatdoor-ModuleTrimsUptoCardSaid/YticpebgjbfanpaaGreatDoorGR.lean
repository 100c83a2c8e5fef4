/- What stands in scope, and what the check of a program says of calls, variables and labels: plain functions. No program here. -/
import Derived.Test.YticpebgjbfanpaaGreatDoorGV
import Derived.Test.YticpebgjbfanpaaGreatDoorGA
import Derived.StillTailTactics
import Derived.Test.YticpebgjbfanpaaGreatDoorShelf
namespace Go.Proofs.YticpebgjbfanpaaGreatDoor
open Go.RowKit
def gsF (l:List FuncD):List (ByteArray×Int):=l.map fun f=>(f.name,(f.params.length:Int))
theorem gsF_step (l:List FuncD) {k:Nat} (h:k<l.length):gsF (l.take (k+1))=gsF (l.take k)++[(l[k].name,(l[k].params.length:Int))]:=by
 unfold gsF
 rw [← List.take_append_getElem h,List.map_append]
 rfl
def pgs (l:List ParD):List (ByteArray×Int):=(l.filter fun p=>!p.value).map fun p=>(p.name,0)
def ScD.push (d:ScD) (p:ParD):ScD:=if p.value then ⟨d.vs++[p.name],d.ls,d.gs⟩ else ⟨d.vs,d.ls,d.gs++[(p.name,0)]⟩
def ScD.par (d:ScD) (l:List ParD):ScD:=⟨d.vs++pvars l,d.ls,d.gs++pgs l⟩
theorem ScD.par_step (d:ScD) {l:List ParD} {k:Nat} (h:k<l.length):d.par (l.take (k+1))=(d.par (l.take k)).push l[k]:=by
 unfold ScD.par ScD.push
 rw [pvars_step l h]
 have hg:pgs (l.take (k+1))=pgs (l.take k)++(if l[k].value then [] else [(l[k].name,0)]):=by
  unfold pgs
  rw [← List.take_append_getElem h,List.filter_append,List.map_append]
  congr 1
  cases hv:l[k].value<;>simp [hv]
 rw [hg]
 cases hv:l[k].value<;>simp
def ScD.fns (d:ScD) (l:List FuncD):ScD:=⟨d.vs,d.ls,d.gs++gsF l⟩
def innL (op:Int) (nm:ByteArray):List ByteArray:=if op=26 then [nm] else []
theorem innL_no {op:Int} {nm:ByteArray} (h:op≠26):innL op nm=[]:=by unfold innL;rw [if_neg h]
def ScD.inn (d:ScD) (op:Int) (nm:ByteArray) (i:Nat):ScD:=⟨d.vs++innV op nm i,d.ls++innL op nm,d.gs⟩
def ScD.wit (d:ScD) (x:ExprD) (i:Nat):ScD:=if x.op=23 then d.fns x.funcs else d.inn x.op x.name i
theorem ScD.wit_def (d:ScD) {x:ExprD} {i:Nat} (h:x.op=23):d.wit x i=d.fns x.funcs:=by unfold ScD.wit;rw [if_pos h]
theorem ScD.wit_no (d:ScD) {x:ExprD} {i:Nat} (h:x.op≠23):d.wit x i=d.inn x.op x.name i:=by unfold ScD.wit;rw [if_neg h]
theorem ScD.fns_nil (d:ScD):d.fns []=d:=by unfold ScD.fns gsF;simp
theorem ScD.wit_inn (d:ScD) {x:ExprD} (i:Nat) (h:x.op≠23→x.funcs=[]):d.wit x i=(d.fns x.funcs).inn x.op x.name i:=by
 by_cases h23:x.op=23
 ·rw [d.wit_def h23]
  unfold ScD.inn
  rw [h23]
  simp [innV,innL]
 ·rw [d.wit_no h23,h h23,ScD.fns_nil]
def findG (gs:List (ByteArray×Int)) (s:ByteArray):Int:=match gs.reverse.find? (fun g=>g.1.toList==s.toList) with | some g=>g.2 | none=>-1
theorem findG_step (gs:List (ByteArray×Int)) (s:ByteArray) {k:Nat} (h:k<gs.length):findG (gs.take (k+1)) s=if gs[k].1.toList==s.toList then gs[k].2 else findG (gs.take k) s:=by
 unfold findG
 rw [← List.take_append_getElem h,List.reverse_append,List.reverse_singleton,List.singleton_append,List.find?_cons]
 cases gs[k].1.toList==s.toList<;>rfl
theorem findG_mem {gs:List (ByteArray×Int)} {s:ByteArray} (h:findG gs s≠-1):∃ g∈gs,g.1.toList=s.toList∧findG gs s=g.2:=by
 unfold findG at h ⊢
 split at h
 ·rename_i g hg
  have h1:=List.find?_some hg
  have h2:=List.mem_of_find?_eq_some hg
  exact ⟨g,List.mem_reverse.1 h2,by simpa using h1,rfl⟩
 ·exact absurd rfl h
def arE (k:Int) (n:Nat):Int:=if k=n then 0 else 17
def calE (R:ByteArray→Int) (x:ExprD) (d:ScD):Int:=if 0≤findG d.gs x.name then arE (findG d.gs x.name) x.args.length else if R x.name<0 then 16 else arE (R x.name) x.args.length
def nodE (R:ByteArray→Int) (x:ExprD) (d:ScD):Int :=
 if x.op=21 then calE R x d else if x.op=4 then (if memB d.vs x.name then 0 else 16) else if x.op=27 then (if memB d.ls x.name then 0 else 16) else 0
theorem nodE_21 {R:ByteArray→Int} {x:ExprD} {d:ScD} (h:x.op=21):nodE R x d=calE R x d:=by unfold nodE;rw [if_pos h]
theorem nodE_4 {R:ByteArray→Int} {x:ExprD} {d:ScD} (h:x.op=4):nodE R x d=if memB d.vs x.name then 0 else 16:=by unfold nodE;rw [if_neg (by omega),if_pos h]
theorem nodE_27 {R:ByteArray→Int} {x:ExprD} {d:ScD} (h:x.op=27):nodE R x d=if memB d.ls x.name then 0 else 16:=by unfold nodE;rw [if_neg (by omega),if_neg (by omega),if_pos h]
theorem nodE_no {R:ByteArray→Int} {x:ExprD} {d:ScD} (h1:x.op≠21) (h2:x.op≠4) (h3:x.op≠27):nodE R x d=0:=by unfold nodE;rw [if_neg h1,if_neg h2,if_neg h3]
theorem calE_loc {R:ByteArray→Int} {x:ExprD} {d:ScD} {n:Int} (h:findG d.gs x.name=n) (h0:0≤n):calE R x d=arE n x.args.length:=by unfold calE;rw [h,if_pos h0]
theorem calE_no {R:ByteArray→Int} {x:ExprD} {d:ScD} (h:findG d.gs x.name=-1) (hr:R x.name=-1):calE R x d=16:=by unfold calE;rw [h,hr];rfl
theorem calE_glob {R:ByteArray→Int} {x:ExprD} {d:ScD} {n:Int} (h:findG d.gs x.name=-1) (hr:R x.name=n) (h0:0≤n):calE R x d=arE n x.args.length:=by unfold calE;rw [h,hr,if_neg (by omega),if_neg (by omega)]
theorem arE_same {k:Int} {n:Nat} (h:k=n):arE k n=0:=by unfold arE;rw [if_pos h]
theorem arE_other {k:Int} {n:Nat} (h:k≠n):arE k n=17:=by unfold arE;rw [if_neg h]
def firstE:List Int→Int
 | []=>0
 | e::r=>if e≠0 then e else firstE r
def visF (V:ExprD→ScD→Int) (l:List FuncD) (d:ScD) (k:Nat):Int:=firstE ((l.drop k).map fun f=>V f.body (d.par f.params))
def visA (V:ExprD→ScD→Int) (x:ExprD) (d:ScD) (k:Nat):Int:=firstE (((List.range x.args.length).drop k).map fun i=>V (x.args.getD i default) (d.inn x.op x.name i))
def stepE (R:ByteArray→Int) (V:ExprD→ScD→Int) (x:ExprD) (d:ScD):Int :=
 if nodE R x d≠0 then nodE R x d else if visF V x.funcs (d.fns x.funcs) 0≠0 then visF V x.funcs (d.fns x.funcs) 0 else visA V x (d.fns x.funcs) 0
def visE (R:ByteArray→Int):Nat→ExprD→ScD→Int
 | 0,x,d=>nodE R x d
 | m+1,x,d=>stepE R (visE R m) x d
theorem visF_end (V:ExprD→ScD→Int) (l:List FuncD) (d:ScD):visF V l d l.length=0:=by unfold visF;rw [List.drop_length];rfl
theorem visF_step (V:ExprD→ScD→Int) {l:List FuncD} (d:ScD) {k:Nat} (h:k<l.length):visF V l d k=if V l[k].body (d.par l[k].params)≠0 then V l[k].body (d.par l[k].params) else visF V l d (k+1):=by
 unfold visF
 rw [List.drop_eq_getElem_cons h]
 rfl
theorem visA_end (V:ExprD→ScD→Int) (x:ExprD) (d:ScD):visA V x d x.args.length=0:=by
 unfold visA
 rw [List.drop_eq_nil_of_le (by simp)]
 rfl
theorem visA_step (V:ExprD→ScD→Int) {x:ExprD} (d:ScD) {k:Nat} (h:k<x.args.length):visA V x d k=if V x.args[k] (d.inn x.op x.name k)≠0 then V x.args[k] (d.inn x.op x.name k) else visA V x d (k+1):=by
 unfold visA
 rw [List.drop_eq_getElem_cons (by simpa using h)]
 simp only [List.getElem_range,List.map_cons,firstE,List.getD_eq_getElem?_getD,List.getElem?_eq_getElem h,Option.getD_some]
end Go.Proofs.YticpebgjbfanpaaGreatDoor

/- The reference's scopes: functions, params, within. -/
namespace Go.Proofs.YticpebgjbfanpaaGreatDoor
open Go.RowKit
theorem NmsAt.setRow {u:World} {lo B:Nat} {l:List ByteArray} {a:Option Addr} (h:NmsAt u lo B l a) {q:Nat} {x:Option Addr} {n c:Nat} (hq:u.cell? ⟨q,0,none⟩=some (.slice x n c)) (ds:Array Value):NmsAt (u.setRow q ds) lo B l a:=by
 rcases h with h | ⟨b,h1,h2,h3,h4⟩
 ·exact .inl h
 ·cases hl:l with
  | nil=>exact .inl rfl
  | cons y r =>
    have h0:=h4 0 y (by rw [hl];rfl)
    have hb:b≠q:=fun e=>by
     subst e
     rw [hq] at h0
     cases h0
    rw [← hl]
    refine .inr ⟨b,h1,h2,h3,fun j z hz=>?_⟩
    rw [← h4 j z hz]
    simp only [World.cell?]
    rw [setRow_other _ _ _ _ (by omega)]
theorem SgsAt.setRow {u:World} {lo B:Nat} {l:List (ByteArray×Int)} {a:Option Addr} (h:SgsAt u lo B l a) {q:Nat} {x:Option Addr} {n c:Nat} (hq:u.cell? ⟨q,0,none⟩=some (.slice x n c)) (ds:Array Value):SgsAt (u.setRow q ds) lo B l a:=by
 rcases h with h | ⟨b,h1,h2,h3,h4⟩
 ·exact .inl h
 ·cases hl:l with
  | nil=>exact .inl rfl
  | cons y r =>
    have h0:=h4 0 (.string y.1) (by rw [hl];rfl)
    have hb:b≠q:=fun e=>by
     subst e
     rw [hq] at h0
     cases h0
    rw [← hl]
    refine .inr ⟨b,h1,h2,h3,fun j z hz=>?_⟩
    rw [← h4 j z hz]
    simp only [World.cell?]
    rw [setRow_other _ _ _ _ (by omega)]
theorem ScD.At.setRow {u:World} {lo B C:Nat} {d:ScD} {es:List Value} (h:ScD.At u lo B C d es) {q:Nat} {x:Option Addr} {n c:Nat} (hq:u.cell? ⟨q,0,none⟩=some (.slice x n c)) (ds:Array Value):ScD.At (u.setRow q ds) lo B C d es:=by
 obtain ⟨va,la,ga,vc,lc,gc,h0,h1,h2,h3,h4⟩:=h
 exact ⟨va,la,ga,vc,lc,gc,h0,h1.setRow hq ds,h2.setRow hq ds,h3.setRow hq ds,h4⟩
theorem ScD.At.cell0 {u:World} {lo B C:Nat} {d:ScD} {es:List Value} (h:ScD.At u lo B C d es):∃ x n c,es[0]?=some (.slice x n c):=by
 obtain ⟨va,la,ga,vc,lc,gc,rfl,_⟩:=h
 exact ⟨_,_,_,rfl⟩
theorem ScD.At.ones {u:World} {lo B C:Nat} {d:ScD} {es:List Value} (h:ScD.At u lo B C d es):es.toArray.all (·.oneCell')=true:=by
 obtain ⟨va,la,ga,vc,lc,gc,rfl,_⟩:=h
 exact one3 ..
structure BoxM (w u:World) (cs zs:List Value) (t:TypeId):Prop where
 box:u.heap[w.heap.size]?=some (.cells cs.toArray t (0,0))
 out:u.heap[w.heap.size+1]?=some (.cells zs.toArray t (0,0))
 low:Below w.heap.size w u
 size:w.heap.size+2≤u.heap.size
theorem BoxM.start (w:World) (cs zs:List Value) (t:TypeId):BoxM w ((w.alloc (.cells cs.toArray t)).alloc (.cells zs.toArray t)) cs zs t:=by
 have hB:=Box2.start w cs zs t t
 exact ⟨(heap_alloc_old _ _ (by rw [World.size_alloc];omega)).trans (heap_alloc_new w _),hB.out,hB.low,hB.size⟩
theorem BoxM.below {w u u':World} {cs zs:List Value} {t:TypeId} (h:BoxM w u cs zs t) (hb:Below u.heap.size u u'):BoxM w u' cs zs t :=
 ⟨(hb.block _ (by have:=h.size;omega)).trans h.box,(hb.block _ (by have:=h.size;omega)).trans h.out,belowThen h.low hb,Nat.le_trans h.size hb.size⟩
theorem BoxM.set {w u:World} {cs zs:List Value} {t:TypeId} (h:BoxM w u cs zs t) (ds:List Value):BoxM w (u.setRow w.heap.size ds.toArray) ds zs t :=
 ⟨setRow_heap _ _ _ _ _ _ h.box,(setRow_other _ _ _ _ (by omega)).trans h.out,below_setRow h.low (Nat.le_refl _) _,by have:=h.size;simpa using this⟩
theorem BoxM.cell {w u:World} {cs zs:List Value} {t:TypeId} (h:BoxM w u cs zs t) {j:Nat} {v:Value} (hv:cs[j]?=some v):u.cell? ⟨w.heap.size,j,none⟩=some v:=by
 rw [cell_of_row u w.heap.size j _ _ _ h.box];simpa using hv
theorem BoxM.range {w u:World} {cs zs:List Value} {t:TypeId} (h:BoxM w u cs zs t):u.rangeAt w.heap.size 0 cs:=fun j v hv=>by rw [Nat.zero_add];exact h.cell hv
theorem wpStill_load {P:Program} {ops:Array Oper} {w:World} {Q:Act→Prop} {a:Act} {o:Oper} {rest:List Oper} (hg:o.guard=none) (ty:TypeId) (x:Operand) (ho:o.op=.load ty x) (b off:Nat) (hx:a.eval x=.pointer (some ⟨b,off,none⟩))
 (cs:List Value) (d:TypeDesc) (hc:w.rangeAt b off cs) (hu:P.underlying ty=some d) (hd:d.isRow=true) (hi:(P.info? ty).map (·.size)=some cs.length) (h:wpStill P ops w Q rest (a.put o.dst (.agg cs.toArray))):wpStill P ops w Q (o::rest) a:=by
 refine wpStill_step fun K hK=>?_
 have hw:Region.wanted o (yielded ops a.tmps)=true:=by unfold Region.wanted;rw [hg]
 rw [if_pos hw]
 unfold Oper.still execOp
 simp only [ho,hx,Instr.loadAt,Instr.sureAddr,Sem.run_bind,Sem.run_pure,Result.andThen_ok,run_loadVar_mid w b off ty cs d hc hu hd hi]
 exact ⟨rfl,hK _ h⟩
set_option maxRecDepth 100000 in
set_option maxHeartbeats 3200000 in
theorem functions_r (l:List FuncD) (a:Option Addr) (c:Nat) (d:ScD) (cs:List Value) (w:World) (lo B C N:Nat) (hC:C≤536870912) (hN:N≤536870912) (hl:l.length≤N) (hB:B≤w.heap.size) (hlo:lo≤w.heap.size) (h:ScD.At w lo B C d cs) (hA:FuncsAt w B N l a) :
 Calls Tryz.prog 65 #[.agg cs.toArray,.slice a l.length c] w (ScR lo (C+l.length) ⟨d.vs,d.ls,d.gs++gsF l⟩ w):=by
 have HA:=Hd hA
 have HS:=Hd (h.mono (B':=w.heap.size) (K':=C) hB (Nat.le_refl _))
 have hlen:=h.len
 have hsz:=Hd (show (Tryz.prog.info? 96).map (·.size)=some cs.length by rw [hlen];kernel_rfl)
 have B0:=Hd (BoxM.start w cs zero3 96)
 clear hA h hlen
 go_enter Tryz.func65,Tryz.ntmps65
 go_wp2_with fail
 go_simp
 go_loopw [5] (fun i wr=>∃ k:Nat,k≤l.length∧i=.int .i64 k∧Hid (∃ es,BoxM w wr es zero3 96∧ScD.At wr lo wr.heap.size (C+k) ⟨d.vs,d.ls,d.gs++gsF (l.take k)⟩ es)) (fun i _=>l.length-(intOf i).toNat)
 case atStart =>
  refine ⟨0,by omega,rfl,Hd ⟨cs,B0.out,?_⟩⟩
  have h1:=(HS.out.keep (Kept.of_below B0.out.low)).mono (K':=C+0) (show w.heap.size≤_ from B0.out.low.size) (by omega)
  have e:d.gs++gsF (l.take 0)=d.gs:=by simp [gsF]
  rw [e]
  exact h1
 case round =>
  obtain ⟨w1,rfl⟩:∃ w1,w1=wr:=⟨wr,rfl⟩
  obtain ⟨k,hk,rfl,HR⟩:=hrel
  obtain ⟨es,hb1,hs1⟩:=HR.out
  have B1:=Hd hb1
  have S1:=Hd hs1
  have hesz:=Hd (show (Tryz.prog.info? 96).map (·.size)=some es.length by rw [hs1.len];kernel_rfl)
  clear hb1 hs1 HR
  by_cases hlt:k<l.length
  ·obtain ⟨b,p,rfl,hb,hget⟩:=HA.out.get (by intro h;simp [h] at hlt)
   obtain ⟨fs,g1,g2⟩:=hget k hlt
   obtain ⟨pa,pc,bs,gh⟩:=g2.has
   have HBw:=Hd (show Below B w w1.drew from (B1.out.low.mono hB).trans ⟨rfl,rfl,rfl,Nat.le_refl _,fun _ _=>rfl⟩)
   have f0:=(g1.below HBw.out hb).get0' gh.name
   have f1:=g1.below HBw.out hb 1 (by rw [gh.len];omega)
   rw [gh.params] at f1
   have hpl:l[k].params.length≤N:=gh.hp
   clear g1 g2 gh hget
   obtain ⟨w2,hw2⟩:∃ w2,w2=w1.drew:=⟨_,rfl⟩
   have D2:=Hd (show Below w1.heap.size w1 w2 by rw [hw2];exact ⟨rfl,rfl,rfl,Nat.le_refl _,fun _ _=>rfl⟩)
   have B2:=Hd (B1.out.below D2.out)
   have S2:=Hd ((S1.out.keep (Kept.of_below D2.out)).mono D2.out.size (Nat.le_refl _))
   have HW2:=Hd hw2
   rw [← hw2] at f0 f1
   clear hw2
   go_wp2_with fail
   refine wp_region_still_tail 12 (by kernel_rfl) (by kernel_rfl) ?_
   simp only [List.take_succ_cons,List.take_zero,List.drop_succ_cons,List.drop_zero]
   change wpStill _ _ w1.drew (fun a'=>wpList _ _ _ _ a' w1.drew) _ _
   rw [← HW2.out]
   refine wpStill_load rfl 96 _ rfl w.heap.size 0 rfl es _ B2.out.range Tryz.underlying96 rfl hesz.out ?_
   simp only [Act.put]
   repeat still_step
   refine wpStill_nil ?_
   go_wp2_with fail
   refine (function_r _ l[k].name (l[k].params.length:Int) es w2 lo w2.heap.size (C+k) (by omega) (Nat.le_refl _) (Nat.le_trans hlo B2.out.low.size) S2.out).mono ?_
   rintro e w3 ⟨es3,rfl,hs3,hb3⟩
   have B3:=Hd (B2.out.below hb3)
   have S3:=Hd hs3
   have hes3:=hs3.len
   have hez3:=Hd (show (Tryz.prog.info? 96).map (·.size)=some es3.toArray.size by rw [List.size_toArray,hes3];kernel_rfl)
   have hsame:=Hd (show es.toArray.size=es3.toArray.size by rw [List.size_toArray,List.size_toArray,hes3];exact S2.out.len)
   clear hs3 hb3 hes3
   go_wp2_with (refine wpList_store_row rfl 96 _ _ rfl w.heap.size es3.toArray rfl rfl 96 _ B3.out.box hez3.out hsame.out S3.out.ones ?_)
   have HN:=Hd (show ∃ es',BoxM w (w3.setRow w.heap.size es3.toArray) es' zero3 96∧ScD.At (w3.setRow w.heap.size es3.toArray) lo (w3.setRow w.heap.size es3.toArray).heap.size (C+(k+1)) ⟨d.vs,d.ls,d.gs++gsF (l.take (k+1))⟩ es' by
    obtain ⟨x,n,c',h0⟩:=S2.out.cell0
    have h4:=S3.out.setRow (B3.out.cell h0) es3.toArray
    refine ⟨es3,B3.out.set es3,?_⟩
    rw [gsF_step l hlt,← List.append_assoc]
    exact h4.mono (by simp) (by omega))
   go_roundw
   case rel=>exact ⟨k+1,by omega,by go_num,HN⟩
   case measure=>simp [intOf];omega
  ·obtain rfl:k=l.length:=by omega
   have hesz2:=Hd (show (Tryz.prog.info? 96).map (·.size)=some es.toArray.size by rw [List.size_toArray];exact hesz.out)
   have hsame:=Hd (show zero3.toArray.size=es.toArray.size by rw [List.size_toArray,List.size_toArray,S1.out.len];rfl)
   go_wp2_with (first
    | (refine wpList_load_mid rfl 96 _ rfl w.heap.size 0 rfl es _ B1.out.range Tryz.underlying96 rfl hesz.out ?_)
    | (refine wpList_store_row rfl 96 _ _ rfl (w.heap.size+1) es.toArray rfl rfl 96 _ B1.out.out hesz2.out hsame.out S1.out.ones ?_))
   have HOUT:=setRow_heap w1 (w.heap.size+1) _ es.toArray _ _ B1.out.out
   refine bodyPost_ret (results_cell_row rfl _ _ (w.heap.size+1) 96 _ (0,0) _ rfl HOUT Tryz.underlying96 rfl hesz2.out) rfl ?_
   have h4:=S1.out.setRow (q:=w.heap.size+1) (x:=none) (n:=0) (c:=0) (by rw [cell_of_row w1 (w.heap.size+1) 0 _ _ _ B1.out.out];rfl) es.toArray
   rw [List.take_length] at h4
   exact ⟨es,rfl,h4.mono (by simp) (Nat.le_refl _),below_setRow B1.out.low (by omega) _⟩
def ScW (lo C:Nat) (D:ScD) (w:World) (e:Ending) (w':World):Prop:=∃ d cs,d=D∧e=.returned (.agg cs.toArray)∧ScD.At w' lo w'.heap.size C d cs∧Below w.heap.size w w'
theorem ScR.v {lo C C':Nat} {d:ScD} {w w':World} {e:Ending} (h:ScR lo C d w e w') (hC:C≤C'):ScW lo C' d w e w':=by
 obtain ⟨cs,h1,h2,h3⟩:=h
 exact ⟨d,cs,rfl,h1,h2.mono (Nat.le_refl _) hC,h3⟩
structure BoxP (w u:World) (cs fs zs:List Value) (t:TypeId):Prop where
 box:u.heap[w.heap.size]?=some (.cells cs.toArray t (0,0))
 row:CellsAt u (w.heap.size+1) 0 fs
 out:u.heap[w.heap.size+2]?=some (.cells zs.toArray t (0,0))
 low:Below w.heap.size w u
 size:w.heap.size+3≤u.heap.size
theorem BoxP.start (w:World) (cs fs zs:List Value) (t tf:TypeId):BoxP w (((w.alloc (.cells cs.toArray t)).alloc (.cells fs.toArray tf)).alloc (.cells zs.toArray t)) cs fs zs t:=by
 have s1:(w.alloc (.cells cs.toArray t)).heap.size=w.heap.size+1:=World.size_alloc _ _
 have s2:((w.alloc (.cells cs.toArray t)).alloc (.cells fs.toArray tf)).heap.size=w.heap.size+2:=by rw [World.size_alloc,s1]
 refine ⟨?_,?_,?_,belowThen (belowThen (belowBox w _) (belowBox _ _)) (belowBox _ _),by rw [World.size_alloc,s2];omega⟩
 ·exact (heap_alloc_old _ _ (by rw [s2];omega)).trans ((heap_alloc_old _ _ (by rw [s1];omega)).trans (heap_alloc_new w _))
 ·have h:=(box_at (w.alloc (.cells cs.toArray t)) fs tf).then (belowBox _ (.cells zs.toArray t)) (by rw [s2,s1];omega)
  rw [s1] at h
  exact h
 ·have h:=heap_alloc_new ((w.alloc (.cells cs.toArray t)).alloc (.cells fs.toArray tf)) (.cells zs.toArray t)
  rw [s2] at h
  exact h
theorem BoxP.below {w u u':World} {cs fs zs:List Value} {t:TypeId} (h:BoxP w u cs fs zs t) (hb:Below u.heap.size u u'):BoxP w u' cs fs zs t :=
 ⟨(hb.block _ (by have:=h.size;omega)).trans h.box,h.row.then hb (by have:=h.size;omega),(hb.block _ (by have:=h.size;omega)).trans h.out,belowThen h.low hb,Nat.le_trans h.size hb.size⟩
theorem BoxP.set {w u:World} {cs fs zs:List Value} {t:TypeId} (h:BoxP w u cs fs zs t) (ds:List Value):BoxP w (u.setRow w.heap.size ds.toArray) ds fs zs t:=by
 refine ⟨setRow_heap _ _ _ _ _ _ h.box,fun j hj=>?_,(setRow_other _ _ _ _ (by omega)).trans h.out,below_setRow h.low (Nat.le_refl _) _,by have:=h.size;simpa using this⟩
 rw [← h.row j hj]
 simp only [World.cell?]
 rw [setRow_other _ _ _ _ (by omega)]
theorem BoxP.cell {w u:World} {cs fs zs:List Value} {t:TypeId} (h:BoxP w u cs fs zs t) {j:Nat} {v:Value} (hv:cs[j]?=some v):u.cell? ⟨w.heap.size,j,none⟩=some v:=by
 rw [cell_of_row u w.heap.size j _ _ _ h.box];simpa using hv
theorem BoxP.range {w u:World} {cs fs zs:List Value} {t:TypeId} (h:BoxP w u cs fs zs t):u.rangeAt w.heap.size 0 cs:=fun j v hv=>by rw [Nat.zero_add];exact h.cell hv
set_option maxRecDepth 100000 in
set_option maxHeartbeats 3200000 in
theorem params_r (f:FuncD) (fs:List Value) (d:ScD) (cs:List Value) (w:World) (lo B C N:Nat) (hC:C≤536870912) (hN:N≤536870912) (hB:B≤w.heap.size) (hlo:lo≤w.heap.size) (h:ScD.At w lo B C d cs) (hf:FuncD.At w B N f fs) :
 Calls Tryz.prog 41 #[.agg cs.toArray,.agg fs.toArray] w (ScW lo (C+f.params.length) (d.par f.params) w):=by
 obtain ⟨pa,pc,bs,gh⟩:=hf.has
 have HP:=Hd gh.atPar
 have f1:=gh.params
 have hpl:f.params.length≤N:=gh.hp
 have HS:=Hd (h.mono (B':=w.heap.size) (K':=C) hB (Nat.le_refl _))
 have hlen:=h.len
 have hsz:=Hd (show (Tryz.prog.info? 96).map (·.size)=some cs.length by rw [hlen];kernel_rfl)
 have B0:=Hd (BoxP.start w cs fs zero3 96 82)
 clear gh hf h hlen
 go_enter Tryz.func41,Tryz.ntmps41
 go_wp2_with fail
 go_simp
 go_loopw [5] (fun i wr=>∃ k:Nat,k≤f.params.length∧i=.int .i64 k∧Hid (∃ d' es,d'=d.par (f.params.take k)∧BoxP w wr es fs zero3 96∧ScD.At wr lo wr.heap.size (C+k) d' es)) (fun i _=>f.params.length-(intOf i).toNat)
 case atStart =>
  refine ⟨0,by omega,rfl,Hd ⟨d,cs,by simp [ScD.par,pvars,pgs],B0.out,?_⟩⟩
  exact (HS.out.keep (Kept.of_below B0.out.low)).mono (K':=C+0) (show w.heap.size≤_ from B0.out.low.size) (by omega)
 case round =>
  obtain ⟨w1,rfl⟩:∃ w1,w1=wr:=⟨wr,rfl⟩
  obtain ⟨k,hk,rfl,HR⟩:=hrel
  obtain ⟨d1,es,hv1,hb1,hs1⟩:=HR.out
  have HV1:=Hd hv1
  have B1:=Hd hb1
  have S1:=Hd hs1
  have hesz:=Hd (show (Tryz.prog.info? 96).map (·.size)=some es.length by rw [hs1.len];kernel_rfl)
  have e1:=hb1.row.get0 f1
  clear hb1 hs1 HR hv1
  by_cases hlt:k<f.params.length
  ·obtain ⟨b,p,rfl,hb,hget⟩:=HP.out.get (by intro h;simp [h] at hlt)
   obtain ⟨w2,hw2⟩:∃ w2,w2=w1.drew:=⟨_,rfl⟩
   have D2:=Hd (show Below w1.heap.size w1 w2 by rw [hw2];exact ⟨rfl,rfl,rfl,Nat.le_refl _,fun _ _=>rfl⟩)
   have B2:=Hd (B1.out.below D2.out)
   have S2:=Hd ((S1.out.keep (Kept.of_below D2.out)).mono D2.out.size (Nat.le_refl _))
   have HW2:=Hd hw2
   have q1:=(hget k hlt).2.below (B1.out.low.mono hB) hb 1 (by show 1<2;omega)
   have q0:=((hget k hlt).2.below (B2.out.low.mono hB) hb).get0' rfl
   have e2:=B2.out.row.get0 f1
   have q1':w1.cell? ⟨b,p+k * 2+1,none⟩=some (.bool f.params[k].value):=q1
   clear hw2 hget q1
   cases hval:f.params[k].value
   all_goals
    rw [hval] at q1'
    have HNV:=Hd (d.par_step hlt)
    have HVAL:=Hd hval
    clear hval
    go_wp2_with fail
    refine wp_region_still_tail 7 (by kernel_rfl) (by kernel_rfl) ?_
    simp only [List.take_succ_cons,List.take_zero,List.drop_succ_cons,List.drop_zero]
    change wpStill _ _ w1.drew (fun a'=>wpList _ _ _ _ a' w1.drew) _ _
    rw [← HW2.out]
    refine wpStill_load rfl 96 _ rfl w.heap.size 0 rfl es _ B2.out.range Tryz.underlying96 rfl hesz.out ?_
    simp only [Act.put]
    repeat still_step
    refine wpStill_nil ?_
    go_wp2_with fail
    first
     | refine ((variable_r d1 f.params[k].name es w2 lo w2.heap.size (C+k) (by omega) (Nat.le_refl _) (Nat.le_trans hlo B2.out.low.size) S2.out).mono fun e w' h=>h.v (Nat.le_refl _)).mono ?_
     | refine ((function_r d1 f.params[k].name 0 es w2 lo w2.heap.size (C+k) (by omega) (Nat.le_refl _) (Nat.le_trans hlo B2.out.low.size) S2.out).mono fun e w' h=>h.v (Nat.le_refl _)).mono ?_
    rintro e w3 ⟨d3,es3,hv3,rfl,hs3,hb3⟩
    have B3:=Hd (B2.out.below hb3)
    have S3:=Hd hs3
    have hes3:=hs3.len
    have hez3:=Hd (show (Tryz.prog.info? 96).map (·.size)=some es3.toArray.size by rw [List.size_toArray,hes3];kernel_rfl)
    have hsame:=Hd (show es.toArray.size=es3.toArray.size by rw [List.size_toArray,List.size_toArray,hes3];exact S2.out.len)
    have HV3:=Hd (show d3=d.par (f.params.take (k+1)) by
     rw [hv3,HNV.out,← HV1.out]
     unfold ScD.push
     rw [HVAL.out]
     rfl)
    clear hs3 hb3 hes3 hv3
    go_wp2_with (refine wpList_store_row rfl 96 _ _ rfl w.heap.size es3.toArray rfl rfl 96 _ B3.out.box hez3.out hsame.out S3.out.ones ?_)
    have HN:=Hd (show ∃ d' es',d'=d.par (f.params.take (k+1))∧BoxP w (w3.setRow w.heap.size es3.toArray) es' fs zero3 96∧ScD.At (w3.setRow w.heap.size es3.toArray) lo (w3.setRow w.heap.size es3.toArray).heap.size (C+(k+1)) d' es' by
     obtain ⟨x,n,c',h0⟩:=S2.out.cell0
     have h4:=S3.out.setRow (B3.out.cell h0) es3.toArray
     exact ⟨d3,es3,HV3.out,B3.out.set es3,h4.mono (by simp) (by omega)⟩)
    go_roundw
    case rel=>exact ⟨k+1,by omega,by go_num,HN⟩
    case measure=>simp [intOf];omega
  ·obtain rfl:k=f.params.length:=by omega
   have hesz2:=Hd (show (Tryz.prog.info? 96).map (·.size)=some es.toArray.size by rw [List.size_toArray];exact hesz.out)
   have hsame:=Hd (show zero3.toArray.size=es.toArray.size by rw [List.size_toArray,List.size_toArray,S1.out.len];rfl)
   go_wp2_with (first
    | (refine wpList_load_mid rfl 96 _ rfl w.heap.size 0 rfl es _ B1.out.range Tryz.underlying96 rfl hesz.out ?_)
    | (refine wpList_store_row rfl 96 _ _ rfl (w.heap.size+1+1) es.toArray rfl rfl 96 _ B1.out.out hesz2.out hsame.out S1.out.ones ?_))
   have HOUT:=setRow_heap w1 (w.heap.size+2) _ es.toArray _ _ B1.out.out
   refine bodyPost_ret (results_cell_row rfl _ _ (w.heap.size+1+1) 96 _ (0,0) _ rfl HOUT Tryz.underlying96 rfl hesz2.out) rfl ?_
   have h4:=S1.out.setRow (q:=w.heap.size+2) (x:=none) (n:=0) (c:=0) (by rw [cell_of_row w1 (w.heap.size+2) 0 _ _ _ B1.out.out];rfl) es.toArray
   have hv:=HV1.out
   rw [List.take_length] at hv
   exact ⟨d1,es,hv,rfl,h4.mono (by simp) (Nat.le_refl _),below_setRow B1.out.low (by omega) _⟩
end Go.Proofs.YticpebgjbfanpaaGreatDoor

/- The program's lists in new memory: with of strings and of locals. -/
namespace Go.Proofs.YticpebgjbfanpaaGreatDoor
open Go.RowKit
def OwnS (l:List ByteArray) (w:World) (e:Ending) (w':World):Prop:=∃ v,e=.returned v∧w'.ownsRow w.heap.size 9 1 v l.length (l.map .string)∧Below w.heap.size w w'
theorem clone_s (l:List ByteArray) (a:Option Addr) (c:Nat) (w:World) (lo B:Nat) (hl:l.length≤1073741824) (h:NmsAt w lo B l a):Calls Tryz.prog 123 #[.slice a l.length c] w (OwnS l w):=by
 cases a with
 | none =>
   have h0:l=[]:=by
    rcases h with h | ⟨b,h,_⟩
    ·exact h
    ·cases h
   subst h0
   refine (Tryz.slices_Clone_string_nil 0 c w).mono ?_
   rintro e w' ⟨rfl,rfl⟩
   exact ⟨_,rfl,World.ownsRow_nil _ _ _ _,Below.refl _ _⟩
 | some ad =>
   by_cases hn:l=[]
   ·subst hn
    refine (Tryz.slices_Clone_string_zero ad c w).mono ?_
    rintro e w' ⟨v,rfl,h1,_,h2⟩
    exact ⟨v,rfl,h1,h2⟩
   ·obtain ⟨b,e,_,_,hget⟩:=h.get hn
    cases e
    refine (Tryz.slices_Clone_string b 0 l.length c l w (Nat.le_refl _) (by omega) (fun j hj=>?_)).mono ?_
    ·rw [Nat.zero_add,hget j hj,List.getD_eq_getElem?_getD,List.getElem?_eq_getElem hj]
     rfl
    ·rintro e w' ⟨v,rfl,h1,_,h2⟩
     rw [List.take_length] at h1
     exact ⟨v,rfl,h1,h2⟩
set_option maxRecDepth 100000 in
set_option maxHeartbeats 1600000 in
theorem with_s (l:List ByteArray) (s:ByteArray) (a:Option Addr) (c:Nat) (w:World) (lo1 lo B:Nat) (hl:l.length≤1073741824) (hlo:lo≤w.heap.size) (h:NmsAt w lo1 B l a) :
 Calls Tryz.prog 86 #[.slice a l.length c,.string s] w (NmsR lo (l++[s]) w):=by
 obtain ⟨i0,hi,hz0,hz1,hz2⟩:=info_parts infoSt
 have HI:=Hd hi
 have HZ0:=Hd hz0
 have HZ1:=Hd hz1
 have HZ2:=Hd hz2
 have HA:=Hd h
 clear hi hz0 hz1 hz2 h
 go_enter Tryz.func86,Tryz.ntmps86
 go_wp2_with fail
 refine (clone_s l a c w lo1 B hl HA.out).mono ?_
 rintro e w1 ⟨v1,rfl,hown1,hb1⟩
 have HO1:=Hd hown1
 have HB1:=Hd hb1
 clear hown1 hb1
 go_wp2_with (at_builtin;refine wpList_append_src rfl _ _ 55 rfl w.heap.size 9 i0 (.string ⟨#[]⟩) 1 16 Tryz.underlying55 HI.out HZ0.out HZ1.out HZ2.out rfl (by decide) _ _ _ rfl (HO1.out.alloc _) (some ⟨w1.heap.size,0,none⟩) 1 1 [.string s] rfl rfl (src_new w1 [.string s] 9 1) ?c3 ?c4 ?c5 ?c6 ?_)
 case c3=>intro u hu;simp at hu;subst hu;rfl
 case c4=>unfold maxLen;omega
 case c5=>omega
 case c6=>have:=HB1.out.size;simp;omega
 intro v2 w2 hown2 hgrow2
 have HB2:=Hd (grown_below HB1.out hgrow2 (fun k hk=>(HO1.out.lt k hk).1))
 have HO2:=Hd hown2
 clear hown2 hgrow2
 go_wp2
 go_ret
 exact nms_ret HO2.out hlo (by simp) (by simp) HB2.out
abbrev sgC (l:List (ByteArray×Int)):List Value:=l.flatMap fun x=>[Value.string x.1,.int .i64 x.2]
def OwnG (l:List (ByteArray×Int)) (w:World) (e:Ending) (w':World):Prop:=∃ v,e=.returned v∧w'.ownsRow w.heap.size 127 2 v l.length (sgC l)∧Below w.heap.size w w'
theorem infoLc:(Tryz.prog.info? 127).map (fun i=>(i.zero,i.size,i.bytes))=some (some (.agg #[.string ⟨#[]⟩,.int .i64 0]),2,24):=by kernel_rfl
set_option maxRecDepth 100000 in
set_option maxHeartbeats 1600000 in
theorem clone_g (l:List (ByteArray×Int)) (a:Option Addr) (c:Nat) (w:World) (lo B:Nat) (hl:l.length≤1073741824) (hB:B≤w.heap.size) (h:SgsAt w lo B l a) :
 Calls Tryz.prog 85 #[.slice a l.length c] w (OwnG l w):=by
 obtain ⟨i0,hi,hz0,hz1,hz2⟩:=info_parts infoLc
 have HI:=Hd hi
 have HZ0:=Hd hz0
 have HZ1:=Hd hz1
 have HZ2:=Hd hz2
 clear hi hz0 hz1 hz2
 have q26:∀ (w:World) (a:Option Addr) (n c n' c':Nat),(binOp .eql 85 (.slice a n c) (.slice none n' c')).run Tryz.prog w=.ok (.bool a.isNone) w:=fun w a n c n' c'=>Lib.run_eql_slice_nil w _ _ a n c n' c' Tryz.underlying85
 cases a with
 | none =>
   have h0:l=[]:=by
    rcases h with h | ⟨b,h,_⟩
    ·exact h
    ·cases h
   subst h0
   clear h
   go_enter Tryz.func85,Tryz.ntmps85
   go_wp2_with fail
   go_ret
   exact ⟨_,rfl,World.ownsRow_nil _ _ _ _,Below.refl _ _⟩
 | some ad =>
   have HS:=Hd ((h.keep (Kept.of_below ((belowBox w (.cells #[] 127)).mono hB))).src)
   have HLEN:=Hd (sgs_len l)
   clear h
   go_enter Tryz.func85,Tryz.ntmps85
   go_wp2_with (at_builtin;refine wpList_append_src rfl _ _ 85 rfl w.heap.size 127 i0 (.agg #[.string ⟨#[]⟩,.int .i64 0]) 2 24 Tryz.underlying85 HI.out HZ0.out HZ1.out HZ2.out rfl (by decide) _ _ _ rfl (World.ownsRow_made w #[] 0 (Nat.le_refl _) (Nat.zero_le _) rfl) (some ad) l.length c (sgC l) rfl HLEN.out HS.out (sgs_one l) ?c4 ?c5 ?c6 ?_)
   case c4=>unfold maxLen;omega
   case c5=>omega
   case c6=>simp
   intro v1 w1 hown1 hgrow1
   have HO1:=Hd hown1
   have HB1:=Hd (show Below w.heap.size w w1 from (belowBox w _).grown hgrow1 (by simp) (by intro k hk;simp [Value.ownBlock] at hk;omega))
   clear hown1 hgrow1
   go_wp2
   go_ret
   exact ⟨_,rfl,by simpa using HO1.out,HB1.out⟩
def SgsR (lo:Nat) (l:List (ByteArray×Int)) (w:World) (e:Ending) (w':World):Prop:=∃ (a:Option Addr) (c:Nat),e=.returned (.slice a l.length c)∧l.length≤c∧c≤maxLen∧SgsAt w' lo w'.heap.size l a∧Below w.heap.size w w'
theorem sgC_snoc (l:List (ByteArray×Int)) (s:ByteArray) (n:Int):sgC (l++[(s,n)])=sgC l++[.string s,.int .i64 n]:=by
 unfold sgC
 rw [List.flatMap_append]
 rfl
theorem own_less {w:World} {b b' n sz:Nat} {t:TypeId} {v:Value} {xs:List Value} (h:w.ownsRow b t sz v n xs) (hb:b'≤b):w.ownsRow b' t sz v n xs:=⟨h.1,by
 rcases h.2 with h | ⟨g,cap,cur,h0,h1,h2⟩
 ·exact .inl h
 ·exact .inr ⟨g,cap,cur,h0,Nat.le_trans hb h1,h2⟩⟩
structure Box1 (w u:World) (cs:List Value):Prop where
 row:CellsAt u w.heap.size 0 cs
 low:Below w.heap.size w u
 size:w.heap.size+1≤u.heap.size
theorem Box1.below {w u u':World} {cs:List Value} (h:Box1 w u cs) (hb:Below u.heap.size u u'):Box1 w u' cs:=⟨h.row.then hb (by have:=h.size;omega),belowThen h.low hb,Nat.le_trans h.size hb.size⟩
theorem Box1.start (w:World) (cs:List Value) (t:TypeId):Box1 w (w.alloc (.cells cs.toArray t)) cs:=⟨box_at w cs t,belowBox w _,by rw [World.size_alloc];omega⟩
theorem drewW (w:World):Below w.heap.size w w.drew:=⟨rfl,rfl,rfl,Nat.le_refl _,fun _ _=>rfl⟩
set_option maxRecDepth 100000 in
set_option maxHeartbeats 3200000 in
theorem with_g (l:List (ByteArray×Int)) (s:ByteArray) (n:Int) (a:Option Addr) (c:Nat) (w:World) (lo1 lo B:Nat) (hl:l.length≤536870912) (hlo:lo≤w.heap.size) (hB:B≤w.heap.size) (h:SgsAt w lo1 B l a) :
 Calls Tryz.prog 60 #[.slice a l.length c,.agg #[.string s,.int .i64 n]] w (SgsR lo (l++[(s,n)]) w):=by
 obtain ⟨i0,hi,hz0,hz1,hz2⟩:=info_parts infoLc
 have HI:=Hd hi
 have HZ0:=Hd hz0
 have HZ1:=Hd hz1
 have HZ2:=Hd hz2
 have HA:=Hd h
 have B0:=Hd (Box1.start w [.string s,.int .i64 n] 127)
 clear hi hz0 hz1 hz2 h
 go_enter Tryz.func60,Tryz.ntmps60
 go_wp2_with fail
 refine wp_region_held_drew (S:=fun u=>Box1 w u [.string s,.int .i64 n]) (by kernel_rfl) (B0.out.below (drewW _)) (fun hHeld=>?_)
 refine' wpAnyH_take (i:=0) (v:=.slice a l.length c) rfl (by kernel_rfl) (by kernel_rfl) (by kernel_rfl) (fun _ _ _ h=>h) (.inl ⟨by rfl,fun u hu=>(by go_simp)⟩) hHeld ?_
 simp only [Act.put,List.setIfInBounds_toArray]
 refine' wpAnyH_take (i:=2) (v:=.agg #[.string s,.int .i64 n]) rfl (by kernel_rfl) (by kernel_rfl) (by kernel_rfl) (fun _ _ _ h=>h) (.inl ⟨by rfl,fun u hu=>(by have h0:=hu.row.get0 (j:=0) rfl;have h1:=hu.row.get0 (j:=1) rfl;go_simp)⟩) hHeld ?_
 simp only [Act.put]
 refine wpAnyH_ready (rs:=[1,3]) (by kernel_rfl) (by simp) ?_
 refine AllReadyH.cons rfl (fun K hK=>?_) (AllReadyH.cons rfl (fun K hK=>?_) AllReadyH.nil)
 ·go_simp
  refine (clone_g l a c _ lo1 B (by omega) (Nat.le_trans hB hHeld.low.size) (HA.out.keep (Kept.of_below (hHeld.low.mono hB)))).mono ?_
  rintro e u1 ⟨v1,rfl,hown1,hb1⟩
  have HO1:=Hd (own_less hown1 hHeld.size)
  refine hK.out _ _ (hHeld.below hb1) (fun hHeld1=>?_)
  clear hK K hHeld hown1
  refine rd1 3 rfl (fun K hK=>?_)
  go_simp
  refine hK.out _ _ (hHeld1.below (belowBox _ _)) (fun hHeld2=>?_)
  clear hK K
  refine rd1 4 rfl (fun K hK=>?_)
  rw [if_pos (by kernel_rfl)]
  refine wp_append_own _ _ _ 85 rfl (w.heap.size+1) 127 i0 (.agg #[.string ⟨#[]⟩,.int .i64 0]) 2 24 Tryz.underlying85 HI.out HZ0.out HZ1.out HZ2.out rfl (by decide) v1 l.length (sgC l) rfl (HO1.out.alloc _) ⟨u1.heap.size,0,none⟩ 1 1 [.string s,.int .i64 n] rfl rfl ((src_new u1 [.string s,.int .i64 n] 127 1).2 _ rfl) ?_ (by unfold maxLen;omega) (by omega) (by have:=hHeld2.size;omega) (fun v' u3 ho3 hg3 _=>?_)
  ·intro u hu;simp only [List.mem_cons,List.mem_nil_iff,or_false] at hu;rcases hu with rfl | rfl<;>rfl
  have HO3:=Hd ho3
  have HB3:=Hd (show Below (w.heap.size+1) _ u3 from (Below.refl _ _).grown hg3 hHeld2.size (fun k hk=>(HO1.out.lt k hk).1))
  have HX3:=Hd (show Box1 w u3 [.string s,.int .i64 n] from ⟨hHeld2.row.below HB3.out (by omega),hHeld2.low.trans (HB3.out.mono (by omega)),Nat.le_trans hHeld2.size HB3.out.size⟩)
  refine hK.out _ _ HX3.out (fun hHeldx=>?_)
  clear hK K hHeldx ho3 hg3
  refine rd1 5 rfl (fun K hK=>?_)
  go_simp
  refine hK.out _ _ HX3.out (fun hHeldx=>?_)
  clear hK K hHeldx
  refine wpAnyH_done (by kernel_rfl) ?_ _
  go_wp2_with fail
  go_ret
  obtain ⟨a3,c3,rfl,g1,g2,g3⟩:=sgs_own (l:=l++[(s,n)]) (lo:=lo) (by have h:=HO3.out;rw [← sgC_snoc] at h;simpa using h) (show lo≤w.heap.size+1 by omega)
  exact ⟨a3,c3,rfl,g1,g2,g3,HX3.out.low⟩
 ·go_simp
  refine hK.out _ _ (hHeld.below (belowBox _ _)) (fun hHeld1=>?_)
  clear hK K
  refine rd1 1 rfl (fun K hK=>?_)
  go_simp
  refine (clone_g l a c _ lo1 B (by omega) (Nat.le_trans hB hHeld1.low.size) (HA.out.keep (Kept.of_below (hHeld1.low.mono hB)))).mono ?_
  rintro e u1 ⟨v1,rfl,hown1,hb1⟩
  have hsz2:((w.alloc (.cells #[.string s,.int .i64 n] 127)).alloc (.cells #[.string s,.int .i64 n] 127)).drew.heap.size=w.heap.size+1+1:=by
   show ((w.alloc (.cells #[.string s,.int .i64 n] 127)).alloc (.cells #[.string s,.int .i64 n] 127)).heap.size=_
   rw [World.size_alloc,World.size_alloc]
  have HO1:=Hd (show u1.ownsRow (w.heap.size+1) 127 2 v1 l.length (sgC l) by rw [hsz2] at hown1;exact ⟨hown1.1,by
   rcases hown1.2 with h | ⟨g,cap,cur,h0,h1,h2⟩
   ·exact .inl h
   ·exact .inr ⟨g,cap,cur,h0,by omega,h2⟩⟩)
  have HSR:=Hd (show ∀ (j:Nat) (u:Value),[Value.string s,.int .i64 n][j]?=some u→u1.cell? ((⟨w.heap.size+1,0,none⟩:Addr).add j)=some u from fun j u hj=>by
   have h1:=(src_new (w.alloc (.cells #[.string s,.int .i64 n] 127)) [.string s,.int .i64 n] 127 1).2 _ rfl j u hj
   rw [World.size_alloc] at h1
   rw [addr_add'] at h1 ⊢
   rw [hb1.cell (p:=⟨w.heap.size+1,0+j,none⟩) (by rw [hsz2];show w.heap.size+1<w.heap.size+1+1;omega)]
   exact h1)
  refine hK.out _ _ (hHeld1.below hb1) (fun hHeld2=>?_)
  clear hK K hHeld1 hown1 hb1 hsz2
  refine rd1 4 rfl (fun K hK=>?_)
  rw [if_pos (by kernel_rfl)]
  refine wp_append_own _ _ _ 85 rfl (w.heap.size+1) 127 i0 (.agg #[.string ⟨#[]⟩,.int .i64 0]) 2 24 Tryz.underlying85 HI.out HZ0.out HZ1.out HZ2.out rfl (by decide) v1 l.length (sgC l) rfl HO1.out ⟨w.heap.size+1,0,none⟩ 1 1 [.string s,.int .i64 n] rfl rfl HSR.out ?_ (by unfold maxLen;omega) (by omega) (by have:=hHeld2.size;omega) (fun v' u3 ho3 hg3 _=>?_)
  ·intro u hu;simp only [List.mem_cons,List.mem_nil_iff,or_false] at hu;rcases hu with rfl | rfl<;>rfl
  have HO3:=Hd ho3
  have HB3:=Hd (show Below (w.heap.size+1) _ u3 from (Below.refl _ _).grown hg3 hHeld2.size (fun k hk=>(HO1.out.lt k hk).1))
  have HX3:=Hd (show Box1 w u3 [.string s,.int .i64 n] from ⟨hHeld2.row.below HB3.out (by omega),hHeld2.low.trans (HB3.out.mono (by omega)),Nat.le_trans hHeld2.size HB3.out.size⟩)
  refine hK.out _ _ HX3.out (fun hHeldx=>?_)
  clear hK K hHeldx ho3 hg3
  refine rd1 5 rfl (fun K hK=>?_)
  go_simp
  refine hK.out _ _ HX3.out (fun hHeldx=>?_)
  clear hK K hHeldx
  refine wpAnyH_done (by kernel_rfl) ?_ _
  go_wp2_with fail
  go_ret
  obtain ⟨a3,c3,rfl,g1,g2,g3⟩:=sgs_own (l:=l++[(s,n)]) (lo:=lo) (by have h:=HO3.out;rw [← sgC_snoc] at h;simpa using h) (show lo≤w.heap.size+1 by omega)
  exact ⟨a3,c3,rfl,g1,g2,g3,HX3.out.low⟩
end Go.Proofs.YticpebgjbfanpaaGreatDoor

/- The program's scopes: variable, params, inner. -/
namespace Go.Proofs.YticpebgjbfanpaaGreatDoor
open Go.RowKit
theorem NmsAt.setCell {u:World} {lo B:Nat} {l:List ByteArray} {a:Option Addr} (h:NmsAt u lo B l a) {q:Nat} {x:Option Addr} {n c:Nat} (hq:u.cell? ⟨q,0,none⟩=some (.slice x n c)) (j:Nat) (v:Value):NmsAt (u.setCell ⟨q,j,none⟩ v) lo B l a:=by
 rcases h with h | ⟨b,h1,h2,h3,h4⟩
 ·exact .inl h
 ·cases hl:l with
  | nil=>exact .inl rfl
  | cons y r =>
    have h0:=h4 0 y (by rw [hl];rfl)
    have hb:b≠q:=fun e=>by
     subst e
     rw [hq] at h0
     cases h0
    rw [← hl]
    refine .inr ⟨b,h1,h2,h3,fun k z hz=>?_⟩
    rw [← h4 k z hz]
    simp only [World.cell?]
    rw [heap_setCell_other _ _ _ _ hb]
theorem SgsAt.setCell {u:World} {lo B:Nat} {l:List (ByteArray×Int)} {a:Option Addr} (h:SgsAt u lo B l a) {q:Nat} {x:Option Addr} {n c:Nat} (hq:u.cell? ⟨q,0,none⟩=some (.slice x n c)) (j:Nat) (v:Value):SgsAt (u.setCell ⟨q,j,none⟩ v) lo B l a:=by
 rcases h with h | ⟨b,h1,h2,h3,h4⟩
 ·exact .inl h
 ·cases hl:l with
  | nil=>exact .inl rfl
  | cons y r =>
    have h0:=h4 0 (.string y.1) (by rw [hl];rfl)
    have hb:b≠q:=fun e=>by
     subst e
     rw [hq] at h0
     cases h0
    rw [← hl]
    refine .inr ⟨b,h1,h2,h3,fun k z hz=>?_⟩
    rw [← h4 k z hz]
    simp only [World.cell?]
    rw [heap_setCell_other _ _ _ _ hb]
theorem BoxM.setCell {w u:World} {cs zs:List Value} {t:TypeId} (h:BoxM w u cs zs t) (j:Nat) (v:Value):BoxM w (u.setCell ⟨w.heap.size,j,none⟩ v) (cs.set j v) zs t:=by
 refine ⟨?_,(heap_setCell_other _ _ _ _ (by simp)).trans h.out,h.low.setCell (Nat.le_refl _) v,by have:=h.size;simpa using this⟩
 rw [heap_setCell_same u w.heap.size j _ _ _ h.box]
 simp
theorem BoxM.frozen {w u:World} {cs zs:List Value} {t:TypeId} (h:BoxM w u cs zs t) (j:Nat):u.frozen? ⟨w.heap.size,j,none⟩=false:=frozen_of_row u w.heap.size j _ _ h.box
theorem with_sn (l:List ByteArray) (n:Nat) (hn:l.length=n) (s:ByteArray) (a:Option Addr) (c:Nat) (w:World) (lo1 lo B:Nat) (hl:l.length≤1073741824) (hlo:lo≤w.heap.size) (h:NmsAt w lo1 B l a) :
 Calls Tryz.prog 86 #[.slice a n c,.string s] w (NmsR lo (l++[s]) w):=by
 subst hn
 exact with_s l s a c w lo1 lo B hl hlo h
set_option maxRecDepth 100000 in
set_option maxHeartbeats 3200000 in
theorem variable_p (d:ScD) (s:ByteArray) (cs:List Value) (w:World) (lo B C:Nat) (hC:C≤1073741824) (hB:B≤w.heap.size) (hlo:lo≤w.heap.size) (h:ScD.At w lo B C d cs) :
 Calls Tryz.prog 81 #[.agg cs.toArray,.string s] w (ScW lo (C+1) ⟨d.vs++[s],d.ls,d.gs⟩ w):=by
 obtain ⟨va,la,ga,vc,lc,gc,rfl,hv,hls,hg,k1,k2,k3⟩:=h
 have HV:=Hd hv
 have HL:=Hd hls
 have HG:=Hd hg
 obtain ⟨nv,hnv⟩:∃ n,d.vs.length=n:=⟨_,rfl⟩
 obtain ⟨nl,hnl⟩:∃ n,d.ls.length=n:=⟨_,rfl⟩
 obtain ⟨ng,hng⟩:∃ n,d.gs.length=n:=⟨_,rfl⟩
 have HNV:=Hd hnv
 have HNL:=Hd hnl
 have HNG:=Hd hng
 have K1:=Hd k1
 have K2:=Hd k2
 have K3:=Hd k3
 rw [hnv,hnl,hng]
 clear hv hls hg hnv hnl hng k1 k2 k3
 have B0:=Hd (BoxM.start w [.slice va nv vc,.slice la nl lc,.slice ga ng gc] zero3 87)
 have z0:=B0.out.cell (j:=0) rfl
 go_enter Tryz.func81,Tryz.ntmps81
 go_wp2_with fail
 refine (with_sn d.vs nv HNV.out s va vc _ lo lo B (by have:=K1.out;omega) (by have:=B0.out.size;omega) (HV.out.keep (Kept.of_below (B0.out.low.mono hB)))).mono ?_
 rintro e u1 ⟨a1,c1,rfl,_,_,hn1,hb1⟩
 have B1:=Hd (B0.out.below hb1)
 have N1:=Hd hn1
 obtain ⟨m1,hm1⟩:∃ m,(d.vs++[s]).length=m:=⟨_,rfl⟩
 have HM1:=Hd hm1
 rw [hm1]
 clear hn1 hb1 hm1 z0
 have z1:=B1.out.cell (j:=0) rfl
 have f1:=B1.out.frozen 0
 have Z1:=Hd z1
 have B2:=Hd (show BoxM w (u1.setCell ⟨w.heap.size,0,none⟩ (.slice a1 m1 c1)) [.slice a1 m1 c1,.slice la nl lc,.slice ga ng gc] zero3 87 from B1.out.setCell 0 (.slice a1 m1 c1))
 go_wp2_with (first
  | (refine wpList_load_mid rfl 87 _ rfl w.heap.size 0 rfl [.slice a1 m1 c1,.slice la nl lc,.slice ga ng gc] _ B2.out.range Tryz.underlying87 rfl (by kernel_rfl) ?_)
  | (refine wpList_store_row rfl 87 _ _ rfl (w.heap.size+1) #[.slice a1 m1 c1,.slice la nl lc,.slice ga ng gc] rfl rfl 87 _ B2.out.out (by kernel_rfl) rfl (one3 ..) ?_))
 have HOUT:=setRow_heap (u1.setCell ⟨w.heap.size,0,none⟩ (.slice a1 m1 c1)) (w.heap.size+1) _ #[.slice a1 m1 c1,.slice la nl lc,.slice ga ng gc] _ _ B2.out.out
 refine bodyPost_ret (results_cell_row rfl _ _ (w.heap.size+1) 87 _ (0,0) _ rfl HOUT Tryz.underlying87 rfl (by kernel_rfl)) rfl ?_
 have hlow:Kept lo B w u1:=Kept.of_below (B1.out.low.mono hB)
 have hs1:=B1.out.size
 have A0:ScD.At u1 lo u1.heap.size (C+1) ⟨d.vs++[s],d.ls,d.gs⟩ [.slice a1 m1 c1,.slice la nl lc,.slice ga ng gc]:=by
  refine ⟨a1,la,ga,c1,lc,gc,by rw [HM1.out,HNL.out,HNG.out],N1.out,(HL.out.keep hlow).mono (by omega),(HG.out.keep hlow).mono (by omega),?_,?_,?_⟩
  ·have:=K1.out
   rw [List.length_append]
   show d.vs.length+1≤C+1
   omega
  ·have:=K2.out
   show d.ls.length≤C+1
   omega
  ·have:=K3.out
   show d.gs.length≤C+1
   omega
 have A1:ScD.At (u1.setCell ⟨w.heap.size,0,none⟩ (.slice a1 m1 c1)) lo u1.heap.size (C+1) ⟨d.vs++[s],d.ls,d.gs⟩ [.slice a1 m1 c1,.slice la nl lc,.slice ga ng gc]:=by
  obtain ⟨va',la',ga',vc',lc',gc',h0,h1,h2,h3,h4⟩:=A0
  exact ⟨va',la',ga',vc',lc',gc',h0,h1.setCell Z1.out 0 _,h2.setCell Z1.out 0 _,h3.setCell Z1.out 0 _,h4⟩
 have A2:=A1.setRow (q:=w.heap.size+1) (x:=none) (n:=0) (c:=0) (by rw [cell_of_row _ (w.heap.size+1) 0 _ _ _ B2.out.out];rfl) #[.slice a1 m1 c1,.slice la nl lc,.slice ga ng gc]
 exact ⟨_,[.slice a1 m1 c1,.slice la nl lc,.slice ga ng gc],rfl,rfl,A2.mono (by simp) (Nat.le_refl _),below_setRow B2.out.low (by omega) _⟩
theorem with_gn (l:List (ByteArray×Int)) (m:Nat) (hm:l.length=m) (s:ByteArray) (n:Int) (a:Option Addr) (c:Nat) (w:World) (lo1 lo B:Nat) (hl:l.length≤536870912) (hlo:lo≤w.heap.size) (hB:B≤w.heap.size) (h:SgsAt w lo1 B l a) :
 Calls Tryz.prog 60 #[.slice a m c,.agg #[.string s,.int .i64 n]] w (SgsR lo (l++[(s,n)]) w):=by
 subst hm
 exact with_g l s n a c w lo1 lo B hl hlo hB h
theorem sizePar:(Tryz.prog.info? 115).map (·.size)=some 2:=by kernel_rfl
set_option maxRecDepth 100000 in
set_option maxHeartbeats 3200000 in
theorem params_p (l:List ParD) (a:Option Addr) (c:Nat) (d:ScD) (cs:List Value) (w:World) (lo B C N:Nat) (hC:C≤268435456) (hN:N≤268435456) (hl:l.length≤N) (hB:B≤w.heap.size) (hlo:lo≤w.heap.size) (h:ScD.At w lo B C d cs) (hA:ParamsAt w B N l a) :
 Calls Tryz.prog 56 #[.agg cs.toArray,.slice a l.length c] w (ScW lo (C+l.length) (d.par l) w):=by
 have HP:=Hd hA
 have HS:=Hd (h.mono (B':=w.heap.size) (K':=C) hB (Nat.le_refl _))
 have hlen:=h.len
 have B0:=Hd (BoxM.start w cs zero3 87)
 clear hA h hlen
 go_enter Tryz.func56,Tryz.ntmps56
 go_wp2_with fail
 go_simp
 go_loopw [9] (fun i wr=>∃ k:Nat,k≤l.length∧i=.int .i64 k∧Hid (∃ d' es,d'=d.par (l.take k)∧BoxM w wr es zero3 87∧ScD.At wr lo wr.heap.size (C+k) d' es)) (fun i _=>l.length-(intOf i).toNat)
 case atStart =>
  refine ⟨0,by omega,rfl,Hd ⟨d,cs,by simp [ScD.par,pvars,pgs],B0.out,?_⟩⟩
  exact (HS.out.keep (Kept.of_below B0.out.low)).mono (K':=C+0) (show w.heap.size≤_ from B0.out.low.size) (by omega)
 case round =>
  obtain ⟨w1,rfl⟩:∃ w1,w1=wr:=⟨wr,rfl⟩
  obtain ⟨k,hk,rfl,HR⟩:=hrel
  obtain ⟨d1,es,hv1,hb1,hs1⟩:=HR.out
  have HV1:=Hd hv1
  have B1:=Hd hb1
  have S1:=Hd hs1
  have hesz:=Hd (show (Tryz.prog.info? 87).map (·.size)=some es.length by rw [hs1.len];kernel_rfl)
  clear hb1 hs1 HR hv1
  by_cases hlt:k<l.length
  ·obtain ⟨b,p,rfl,hb,hget⟩:=HP.out.get (by intro h;simp [h] at hlt)
   obtain ⟨ps,hps⟩:∃ ps,ps=(l[k]).cells:=⟨_,rfl⟩
   have q0:ps[0]?=some (.string (l[k]).name):=by rw [hps];rfl
   have q1:ps[1]?=some (.bool (l[k]).value):=by rw [hps];rfl
   have hpl2:ps.length=2:=by rw [hps];rfl
   have hpone:=Hd (show ps.toArray.all (·.oneCell')=true from Go.all_oneCell_toArray (fun u hu=>by
    rw [hps] at hu
    simp only [ParD.cells,List.mem_cons,List.mem_nil_iff,or_false] at hu
    rcases hu with rfl | rfl<;>rfl))
   have HR2:=Hd (show CellsAt w1 b (p+k * 2) ps by rw [hps];exact (hget k hlt).2.below (B1.out.low.mono hB) hb).range
   have hlp:=Hd (show (Tryz.prog.info? 115).map (·.size)=some ps.length by rw [hpl2];exact sizePar)
   have hlp2:=Hd (show (Tryz.prog.info? 115).map (·.size)=some ps.toArray.size by rw [List.size_toArray,hpl2];exact sizePar)
   have h2s:=Hd (show 2=ps.toArray.size by rw [List.size_toArray,hpl2])
   have PX:=Hd (box_at w1 ps 115)
   have B2:=Hd (B1.out.below (belowBox w1 (.cells ps.toArray 115)))
   have S2:=Hd ((S1.out.keep (Kept.of_below (belowBox w1 (.cells ps.toArray 115)))).mono (belowBox w1 (.cells ps.toArray 115)).size (Nat.le_refl _))
   have e0:=PX.out.get0 q0
   have e1:=PX.out.get0 q1
   have HNV:=Hd (d.par_step hlt)
   clear hget hps q0 q1 hpl2
   cases hval:l[k].value
   case true =>
    rw [hval] at e1
    have HVAL:=Hd hval
    clear hval
    go_wp2_with (first
     | (refine wpList_load_mid rfl 115 _ rfl b (p+k * 2) rfl ps _ HR2.out Tryz.underlying115 rfl hlp.out ?_)
     | (refine wpList_store_new rfl 115 _ _ rfl _ ps.toArray rfl rfl hlp2.out h2s.out hpone.out ?_)
     | (refine wpList_load_mid rfl 87 _ rfl w.heap.size 0 rfl es _ B2.out.range Tryz.underlying87 rfl hesz.out ?_))
    refine (variable_p d1 l[k].name es _ lo (w1.alloc (.cells ps.toArray 115)).heap.size (C+k) (by omega) (Nat.le_refl _) (Nat.le_trans hlo B2.out.low.size) S2.out).mono ?_
    rintro e w3 ⟨d3,es3,hv3,rfl,hs3,hb3⟩
    have B3:=Hd (B2.out.below hb3)
    have S3:=Hd hs3
    have hes3:=hs3.len
    have hez3:=Hd (show (Tryz.prog.info? 87).map (·.size)=some es3.toArray.size by rw [List.size_toArray,hes3];kernel_rfl)
    have hsame:=Hd (show es.toArray.size=es3.toArray.size by rw [List.size_toArray,List.size_toArray,hes3];exact S2.out.len)
    have HV3:=Hd (show d3=d.par (l.take (k+1)) by
     rw [hv3,HNV.out,← HV1.out]
     unfold ScD.push
     rw [HVAL.out]
     rfl)
    clear hs3 hb3 hes3 hv3 e0 e1
    go_wp2_with (refine wpList_store_row rfl 87 _ _ rfl w.heap.size es3.toArray rfl rfl 87 _ B3.out.box hez3.out hsame.out S3.out.ones ?_)
    have HN:=Hd (show ∃ d' es',d'=d.par (l.take (k+1))∧BoxM w (w3.setRow w.heap.size es3.toArray) es' zero3 87∧ScD.At (w3.setRow w.heap.size es3.toArray) lo (w3.setRow w.heap.size es3.toArray).heap.size (C+(k+1)) d' es' by
     obtain ⟨x,n,c',h0⟩:=S2.out.cell0
     have h4:=S3.out.setRow (B3.out.cell h0) es3.toArray
     exact ⟨d3,es3,HV3.out,B3.out.set es3,h4.mono (by simp) (by omega)⟩)
    go_roundw
    case rel=>exact ⟨k+1,by omega,by go_num,HN⟩
    case measure=>simp [intOf];omega
   case false =>
    rw [hval] at e1
    have HVAL:=Hd hval
    clear hval
    obtain ⟨va,la,ga,vc,lc,gc,hes,hv,hls,hg,k1,k2,k3⟩:=S2.out
    have HG2:=Hd hg
    obtain ⟨ng,hng⟩:∃ n,d1.gs.length=n:=⟨_,rfl⟩
    obtain ⟨nv,hnv⟩:∃ n,d1.vs.length=n:=⟨_,rfl⟩
    obtain ⟨nl,hnl⟩:∃ n,d1.ls.length=n:=⟨_,rfl⟩
    have HNG:=Hd hng
    have HNV1:=Hd hnv
    have HNL:=Hd hnl
    rw [hnv,hnl,hng] at hes
    subst hes
    have K3:=Hd k3
    have e2:=B2.out.cell (j:=2) (v:=.slice ga ng gc) rfl
    clear hv hls hg k1 k2 k3 hng hnv hnl
    go_wp2_with (first
     | (refine wpList_load_mid rfl 115 _ rfl b (p+k * 2) rfl ps _ HR2.out Tryz.underlying115 rfl hlp.out ?_)
     | (refine wpList_store_new rfl 115 _ _ rfl _ ps.toArray rfl rfl hlp2.out h2s.out hpone.out ?_))
    refine (with_gn d1.gs ng HNG.out l[k].name 0 ga gc _ lo lo (w1.alloc (.cells ps.toArray 115)).heap.size (by have:=K3.out;omega) (Nat.le_trans hlo B2.out.low.size) (Nat.le_refl _) HG2.out).mono ?_
    rintro e w3 ⟨a3,c3,rfl,_,_,hn3,hb3⟩
    have B3:=Hd (B2.out.below hb3)
    have N3:=Hd hn3
    have S3:=Hd ((S2.out.keep (Kept.of_below hb3)).mono hb3.size (Nat.le_refl _))
    obtain ⟨m3,hm3⟩:∃ m,(d1.gs++[(l[k].name,(0:Int))]).length=m:=⟨_,rfl⟩
    have HM3:=Hd hm3
    rw [hm3]
    clear hn3 hb3 hm3 e0 e1 e2
    have e2:=B3.out.cell (j:=2) (v:=.slice ga ng gc) rfl
    have fz:=B3.out.frozen 2
    go_wp2_with fail
    have HN:=Hd (show ∃ d' es',d'=d.par (l.take (k+1))∧BoxM w (w3.setCell ⟨w.heap.size,2,none⟩ (.slice a3 m3 c3)) es' zero3 87∧ScD.At (w3.setCell ⟨w.heap.size,2,none⟩ (.slice a3 m3 c3)) lo (w3.setCell ⟨w.heap.size,2,none⟩ (.slice a3 m3 c3)).heap.size (C+(k+1)) d' es' by
     refine ⟨⟨d1.vs,d1.ls,d1.gs++[(l[k].name,0)]⟩,[.slice va nv vc,.slice la nl lc,.slice a3 m3 c3],?_,B3.out.setCell 2 _,?_⟩
     ·rw [HNV.out,← HV1.out]
      unfold ScD.push
      rw [HVAL.out]
      rfl
     ·obtain ⟨va',la',ga',vc',lc',gc',h0,h1,h2,_,h4,h5,h6⟩:=S3.out
      simp only [List.cons.injEq,Value.slice.injEq,and_true] at h0
      obtain ⟨⟨rfl,_,rfl⟩,⟨rfl,_,rfl⟩,_⟩:=h0
      have hz:=B3.out.cell (j:=0) (v:=.slice va nv vc) rfl
      refine ⟨va,la,a3,vc,lc,c3,by rw [HNV1.out,HNL.out,HM3.out],(h1.setCell hz 2 _).mono (by simp),(h2.setCell hz 2 _).mono (by simp),(N3.out.setCell hz 2 _).mono (by simp),by show d1.vs.length≤_;omega,by show d1.ls.length≤_;omega,?_⟩
      rw [List.length_append]
      show d1.gs.length+1≤C+(k+1)
      omega)
    go_roundw
    case rel=>exact ⟨k+1,by omega,by go_num,HN⟩
    case measure=>simp [intOf];omega
  ·obtain rfl:k=l.length:=by omega
   have hesz2:=Hd (show (Tryz.prog.info? 87).map (·.size)=some es.toArray.size by rw [List.size_toArray];exact hesz.out)
   have hsame:=Hd (show zero3.toArray.size=es.toArray.size by rw [List.size_toArray,List.size_toArray,S1.out.len];rfl)
   go_wp2_with (first
    | (refine wpList_load_mid rfl 87 _ rfl w.heap.size 0 rfl es _ B1.out.range Tryz.underlying87 rfl hesz.out ?_)
    | (refine wpList_store_row rfl 87 _ _ rfl (w.heap.size+1) es.toArray rfl rfl 87 _ B1.out.out hesz2.out hsame.out S1.out.ones ?_))
   have HOUT:=setRow_heap w1 (w.heap.size+1) _ es.toArray _ _ B1.out.out
   refine bodyPost_ret (results_cell_row rfl _ _ (w.heap.size+1) 87 _ (0,0) _ rfl HOUT Tryz.underlying87 rfl hesz2.out) rfl ?_
   have h4:=S1.out.setRow (q:=w.heap.size+1) (x:=none) (n:=0) (c:=0) (by rw [cell_of_row w1 (w.heap.size+1) 0 _ _ _ B1.out.out];rfl) es.toArray
   have hv:=HV1.out
   rw [List.take_length] at hv
   exact ⟨d1,es,hv,rfl,h4.mono (by simp) (Nat.le_refl _),below_setRow B1.out.low (by omega) _⟩
end Go.Proofs.YticpebgjbfanpaaGreatDoor

/- The reference's scope of an argument (datakitref38.within). -/
namespace Go.Proofs.YticpebgjbfanpaaGreatDoor
open Go.RowKit
structure BoxW (w u:World) (xs cs zs:List Value) (t:TypeId):Prop where
 row:CellsAt u w.heap.size 0 xs
 sc:CellsAt u (w.heap.size+1) 0 cs
 out:u.heap[w.heap.size+2]?=some (.cells zs.toArray t (0,0))
 low:Below w.heap.size w u
 size:w.heap.size+3≤u.heap.size
theorem BoxW.start (w:World) (xs cs zs:List Value) (tx t:TypeId):BoxW w (((w.alloc (.cells xs.toArray tx)).alloc (.cells cs.toArray t)).alloc (.cells zs.toArray t)) xs cs zs t:=by
 have s1:(w.alloc (.cells xs.toArray tx)).heap.size=w.heap.size+1:=World.size_alloc _ _
 have s2:((w.alloc (.cells xs.toArray tx)).alloc (.cells cs.toArray t)).heap.size=w.heap.size+2:=by rw [World.size_alloc,s1]
 refine ⟨?_,?_,?_,belowThen (belowThen (belowBox w _) (belowBox _ _)) (belowBox _ _),by rw [World.size_alloc,s2];omega⟩
 ·exact ((box_at w xs tx).then (belowBox _ _) (by rw [s1];omega)).then (belowBox _ _) (by rw [s2];omega)
 ·have h:=(box_at (w.alloc (.cells xs.toArray tx)) cs t).then (belowBox _ (.cells zs.toArray t)) (by rw [s2,s1];omega)
  rw [s1] at h
  exact h
 ·have h:=heap_alloc_new ((w.alloc (.cells xs.toArray tx)).alloc (.cells cs.toArray t)) (.cells zs.toArray t)
  rw [s2] at h
  exact h
theorem BoxW.below {w u u':World} {xs cs zs:List Value} {t:TypeId} (h:BoxW w u xs cs zs t) (hb:Below u.heap.size u u'):BoxW w u' xs cs zs t :=
 ⟨h.row.then hb (by have:=h.size;omega),h.sc.then hb (by have:=h.size;omega),(hb.block _ (by have:=h.size;omega)).trans h.out,belowThen h.low hb,Nat.le_trans h.size hb.size⟩
theorem innV_yes {op:Int} {nm:ByteArray} {i:Nat} (h:(op=22∧i=1)∨(op=19∧i=2)∨(op=20∧2≤i)):innV op nm i=[nm]:=by unfold innV;rw [if_pos h]
theorem innV_no {op:Int} {nm:ByteArray} {i:Nat} (h:¬ ((op=22∧i=1)∨(op=19∧i=2)∨(op=20∧2≤i))):innV op nm i=[]:=by unfold innV;rw [if_neg h]
set_option maxRecDepth 100000 in
set_option maxHeartbeats 6400000 in
theorem within_r (x:ExprD) (xs:List Value) (i:Nat) (d:ScD) (cs:List Value) (w:World) (lo B C N:Nat) (hC:C≤536870912) (hN:N≤268435456) (hi:i≤N) (hB:B≤w.heap.size) (hlo:lo≤w.heap.size) (h:ScD.At w lo B C d cs) (hx:ExprD.At w B N x xs) :
 Calls Tryz.prog 66 #[.agg xs.toArray,.int .i64 i,.agg cs.toArray] w (ScW lo (C+N+1) (d.wit x i) w):=by
 obtain ⟨aa,fa,ac,fc,vs,hh⟩:=hx.has
 have c0:=hh.op
 have c1:=hh.name
 have c16:=hh.funcs
 have hfl:x.funcs.length≤N:=hh.own.2.2.2
 have HU:=Hd hh.atFuncs
 have HS:=Hd (h.mono (B':=w.heap.size) (K':=C) hB (Nat.le_refl _))
 have hlen:=h.len
 have hsz:=Hd (show (Tryz.prog.info? 96).map (·.size)=some cs.length by rw [hlen];kernel_rfl)
 have hsz2:=Hd (show (Tryz.prog.info? 96).map (·.size)=some cs.toArray.size by rw [List.size_toArray,hlen];kernel_rfl)
 have hsame0:=Hd (show zero3.toArray.size=cs.toArray.size by rw [List.size_toArray,List.size_toArray,hlen];rfl)
 have B0:=Hd (BoxW.start w xs cs zero3 34 96)
 clear hh hx h hlen
 have hcase:(x.op=22∧i=1)∨(x.op=19∧i=2)∨(x.op=20∧2≤i)∨(x.op=26)∨(x.op=23)∨(x.op=22∧i≠1)∨(x.op=19∧i≠2)∨(x.op=20∧i<2)∨(x.op≠22∧x.op≠19∧x.op≠20∧x.op≠26∧x.op≠23):=by omega
 have hzc:=Hd (show ∀ u:World,u.heap[w.heap.size+2]?=some (.cells zero3.toArray 96 (0,0))→u.cell? ⟨w.heap.size+2,0,none⟩=some (.slice none 0 0) from fun u hu=>by rw [cell_of_row u (w.heap.size+2) 0 _ _ _ hu];rfl)
 have hzs:=Hd (show ∀ (u:World) (K:Nat) (d3:ScD) (es:List Value),ScD.At u lo u.heap.size K d3 es→(Tryz.prog.info? 96).map (·.size)=some es.toArray.size∧zero3.toArray.size=es.toArray.size from fun u K d3 es h=>by
  rw [List.size_toArray,h.len];exact ⟨by kernel_rfl,rfl⟩)
 have HS0:=Hd ((HS.out.keep (Kept.of_below B0.out.low)).mono (B':=w.heap.size+3) (K':=C) (by omega) (Nat.le_refl _))
 rcases hcase with h | h | h | h | h | h | h | h | h
 case inl =>
  obtain  ⟨ho,rfl⟩:=h
  have HD:=Hd (d.wit_no (x:=x) (i:=1) (show x.op≠23 by omega))
  rw [ho] at HD
  have HV:=Hd (innV_yes (nm:=x.name) (.inl ⟨ho,rfl⟩))
  rw [ho] at c0
  rw [ho] at HV
  clear ho
  have e0:=B0.out.row.get0 c0
  have e1:=B0.out.row.get0 c1
  go_enter Tryz.func66,Tryz.ntmps66
  go_wp2_with (refine wpList_load_mid rfl 96 _ rfl (w.heap.size+1) 0 rfl cs _ B0.out.sc.range Tryz.underlying96 rfl hsz.out ?_)
  refine ((variable_r d x.name cs _ lo w.heap.size C (by omega) (by have:=B0.out.size;omega) (by have:=B0.out.size;omega) (HS.out.keep (Kept.of_below B0.out.low))).mono fun e w' h=>h.v (C':=C+N+1) (by omega)).mono ?_
  rintro e w3 ⟨d3,es3,hv3,rfl,hs3,hb3⟩
  have B3:=Hd (B0.out.below hb3)
  have S3:=Hd hs3
  have HV3:=Hd hv3
  have HZ3:=Hd (hzs.out _ _ _ _ hs3)
  clear hs3 hb3 hv3
  go_wp2_with (refine wpList_store_row rfl 96 _ _ rfl (w.heap.size+1+1) es3.toArray rfl rfl 96 _ B3.out.out HZ3.out.1 HZ3.out.2 S3.out.ones ?_)
  have HOUT:=setRow_heap w3 (w.heap.size+2) _ es3.toArray _ _ B3.out.out
  refine bodyPost_ret (results_cell_row rfl _ _ (w.heap.size+1+1) 96 _ (0,0) _ rfl HOUT Tryz.underlying96 rfl HZ3.out.1) rfl ?_
  have h4:=S3.out.setRow (hzc.out _ B3.out.out) es3.toArray
  exact ⟨d3,es3,by rw [HV3.out,HD.out];simp [ScD.inn,HV.out,innL],rfl,h4.mono (by simp) (by omega),below_setRow B3.out.low (by omega) _⟩
 case inr.inl =>
  obtain  ⟨ho,rfl⟩:=h
  have HD:=Hd (d.wit_no (x:=x) (i:=2) (show x.op≠23 by omega))
  rw [ho] at HD
  have HV:=Hd (innV_yes (nm:=x.name) (.inr (.inl ⟨ho,rfl⟩)))
  rw [ho] at c0
  rw [ho] at HV
  clear ho
  have e0:=B0.out.row.get0 c0
  have e1:=B0.out.row.get0 c1
  go_enter Tryz.func66,Tryz.ntmps66
  go_wp2_with (refine wpList_load_mid rfl 96 _ rfl (w.heap.size+1) 0 rfl cs _ B0.out.sc.range Tryz.underlying96 rfl hsz.out ?_)
  refine ((variable_r d x.name cs _ lo w.heap.size C (by omega) (by have:=B0.out.size;omega) (by have:=B0.out.size;omega) (HS.out.keep (Kept.of_below B0.out.low))).mono fun e w' h=>h.v (C':=C+N+1) (by omega)).mono ?_
  rintro e w3 ⟨d3,es3,hv3,rfl,hs3,hb3⟩
  have B3:=Hd (B0.out.below hb3)
  have S3:=Hd hs3
  have HV3:=Hd hv3
  have HZ3:=Hd (hzs.out _ _ _ _ hs3)
  clear hs3 hb3 hv3
  go_wp2_with (refine wpList_store_row rfl 96 _ _ rfl (w.heap.size+1+1) es3.toArray rfl rfl 96 _ B3.out.out HZ3.out.1 HZ3.out.2 S3.out.ones ?_)
  have HOUT:=setRow_heap w3 (w.heap.size+2) _ es3.toArray _ _ B3.out.out
  refine bodyPost_ret (results_cell_row rfl _ _ (w.heap.size+1+1) 96 _ (0,0) _ rfl HOUT Tryz.underlying96 rfl HZ3.out.1) rfl ?_
  have h4:=S3.out.setRow (hzc.out _ B3.out.out) es3.toArray
  exact ⟨d3,es3,by rw [HV3.out,HD.out];simp [ScD.inn,HV.out,innL],rfl,h4.mono (by simp) (by omega),below_setRow B3.out.low (by omega) _⟩
 case inr.inr.inl =>
  obtain ⟨ho,h2⟩:=h
  have HD:=Hd (d.wit_no (x:=x) (i:=i) (show x.op≠23 by omega))
  rw [ho] at HD
  have HV:=Hd (innV_yes (nm:=x.name) (.inr (.inr ⟨ho,h2⟩)))
  rw [ho] at c0
  rw [ho] at HV
  clear ho
  have h2':(2:Int)≤(i:Int):=by omega
  have e0:=B0.out.row.get0 c0
  have e1:=B0.out.row.get0 c1
  go_enter Tryz.func66,Tryz.ntmps66
  go_wp2_with (refine wpList_load_mid rfl 96 _ rfl (w.heap.size+1) 0 rfl cs _ B0.out.sc.range Tryz.underlying96 rfl hsz.out ?_)
  refine ((variable_r d x.name cs _ lo w.heap.size C (by omega) (by have:=B0.out.size;omega) (by have:=B0.out.size;omega) (HS.out.keep (Kept.of_below B0.out.low))).mono fun e w' h=>h.v (C':=C+N+1) (by omega)).mono ?_
  rintro e w3 ⟨d3,es3,hv3,rfl,hs3,hb3⟩
  have B3:=Hd (B0.out.below hb3)
  have S3:=Hd hs3
  have HV3:=Hd hv3
  have HZ3:=Hd (hzs.out _ _ _ _ hs3)
  clear hs3 hb3 hv3
  go_wp2_with (refine wpList_store_row rfl 96 _ _ rfl (w.heap.size+1+1) es3.toArray rfl rfl 96 _ B3.out.out HZ3.out.1 HZ3.out.2 S3.out.ones ?_)
  have HOUT:=setRow_heap w3 (w.heap.size+2) _ es3.toArray _ _ B3.out.out
  refine bodyPost_ret (results_cell_row rfl _ _ (w.heap.size+1+1) 96 _ (0,0) _ rfl HOUT Tryz.underlying96 rfl HZ3.out.1) rfl ?_
  have h4:=S3.out.setRow (hzc.out _ B3.out.out) es3.toArray
  exact ⟨d3,es3,by rw [HV3.out,HD.out];simp [ScD.inn,HV.out,innL],rfl,h4.mono (by simp) (by omega),below_setRow B3.out.low (by omega) _⟩
 case inr.inr.inr.inl =>
  have ho:x.op=26:=h
  clear h
  have HD:=Hd (d.wit_no (x:=x) (i:=i) (show x.op≠23 by omega))
  rw [ho] at HD
  have HV:=Hd (innV_no (op:=x.op) (nm:=x.name) (i:=i) (by omega))
  rw [ho] at c0
  rw [ho] at HV
  clear ho
  have e0:=B0.out.row.get0 c0
  have e1:=B0.out.row.get0 c1
  go_enter Tryz.func66,Tryz.ntmps66
  go_wp2_with (refine wpList_load_mid rfl 96 _ rfl (w.heap.size+1) 0 rfl cs _ B0.out.sc.range Tryz.underlying96 rfl hsz.out ?_)
  refine ((label_r d x.name cs _ lo w.heap.size C (by omega) (by have:=B0.out.size;omega) (by have:=B0.out.size;omega) (HS.out.keep (Kept.of_below B0.out.low))).mono fun e w' h=>h.v (C':=C+N+1) (by omega)).mono ?_
  rintro e w3 ⟨d3,es3,hv3,rfl,hs3,hb3⟩
  have B3:=Hd (B0.out.below hb3)
  have S3:=Hd hs3
  have HV3:=Hd hv3
  have HZ3:=Hd (hzs.out _ _ _ _ hs3)
  clear hs3 hb3 hv3
  go_wp2_with (refine wpList_store_row rfl 96 _ _ rfl (w.heap.size+1+1) es3.toArray rfl rfl 96 _ B3.out.out HZ3.out.1 HZ3.out.2 S3.out.ones ?_)
  have HOUT:=setRow_heap w3 (w.heap.size+2) _ es3.toArray _ _ B3.out.out
  refine bodyPost_ret (results_cell_row rfl _ _ (w.heap.size+1+1) 96 _ (0,0) _ rfl HOUT Tryz.underlying96 rfl HZ3.out.1) rfl ?_
  have h4:=S3.out.setRow (hzc.out _ B3.out.out) es3.toArray
  exact ⟨d3,es3,by rw [HV3.out,HD.out];simp [ScD.inn,HV.out,innL],rfl,h4.mono (by simp) (by omega),below_setRow B3.out.low (by omega) _⟩
 case inr.inr.inr.inr.inl =>
  have ho:x.op=23:=h
  clear h
  have HD:=Hd (d.wit_def (i:=i) ho)
  have HV:=Hd (innV_no (op:=x.op) (nm:=x.name) (i:=i) (by omega))
  rw [ho] at c0
  rw [ho] at HV
  clear ho
  have e0:=B0.out.row.get0 c0
  have e1:=B0.out.row.get0 c1
  have e16:=B0.out.row.get0 c16
  go_enter Tryz.func66,Tryz.ntmps66
  go_wp2_with (refine wpList_load_mid rfl 96 _ rfl (w.heap.size+1) 0 rfl cs _ B0.out.sc.range Tryz.underlying96 rfl hsz.out ?_)
  refine ((functions_r x.funcs fa fc d cs _ lo w.heap.size C N hC (by omega) hfl (by have:=B0.out.size;omega) (by have:=B0.out.size;omega) (HS.out.keep (Kept.of_below B0.out.low)) (FuncsAt.mono hB _ (FuncsAt.below (B0.out.low.mono hB) _ HU.out))).mono fun e w' h=>h.v (C':=C+N+1) (by omega)).mono ?_
  rintro e w3 ⟨d3,es3,hv3,rfl,hs3,hb3⟩
  have B3:=Hd (B0.out.below hb3)
  have S3:=Hd hs3
  have HV3:=Hd hv3
  have HZ3:=Hd (hzs.out _ _ _ _ hs3)
  clear hs3 hb3 hv3
  go_wp2_with (refine wpList_store_row rfl 96 _ _ rfl (w.heap.size+1+1) es3.toArray rfl rfl 96 _ B3.out.out HZ3.out.1 HZ3.out.2 S3.out.ones ?_)
  have HOUT:=setRow_heap w3 (w.heap.size+2) _ es3.toArray _ _ B3.out.out
  refine bodyPost_ret (results_cell_row rfl _ _ (w.heap.size+1+1) 96 _ (0,0) _ rfl HOUT Tryz.underlying96 rfl HZ3.out.1) rfl ?_
  have h4:=S3.out.setRow (hzc.out _ B3.out.out) es3.toArray
  exact ⟨d3,es3,by rw [HV3.out,HD.out];rfl,rfl,h4.mono (by simp) (by omega),below_setRow B3.out.low (by omega) _⟩
 case inr.inr.inr.inr.inr.inl =>
  obtain ⟨ho,h2⟩:=h
  have HD:=Hd (d.wit_no (x:=x) (i:=i) (show x.op≠23 by omega))
  rw [ho] at HD
  have HV:=Hd (innV_no (op:=x.op) (nm:=x.name) (i:=i) (by omega))
  rw [ho] at c0
  rw [ho] at HV
  clear ho
  have h2':((i:Int)==1)=false:=by simp;omega
  clear h2
  have e0:=B0.out.row.get0 c0
  have e1:=B0.out.row.get0 c1
  go_enter Tryz.func66,Tryz.ntmps66
  go_wp2_with (first
   | (refine wpList_load_mid rfl 96 _ rfl (w.heap.size+1) 0 rfl cs _ B0.out.sc.range Tryz.underlying96 rfl hsz.out ?_)
   | (refine wpList_store_row rfl 96 _ _ rfl (w.heap.size+1+1) cs.toArray rfl rfl 96 _ B0.out.out hsz2.out hsame0.out HS.out.ones ?_))
  have HOUT:=setRow_heap _ (w.heap.size+2) _ cs.toArray _ _ B0.out.out
  refine bodyPost_ret (results_cell_row rfl _ _ (w.heap.size+1+1) 96 _ (0,0) _ rfl HOUT Tryz.underlying96 rfl hsz2.out) rfl ?_
  have h4:=HS0.out.setRow (hzc.out _ B0.out.out) cs.toArray
  exact ⟨d,cs,by rw [HD.out];simp [ScD.inn,HV.out,innL],rfl,h4.mono (by simp) (by omega),below_setRow B0.out.low (by omega) _⟩
 case inr.inr.inr.inr.inr.inr.inl =>
  obtain ⟨ho,h2⟩:=h
  have HD:=Hd (d.wit_no (x:=x) (i:=i) (show x.op≠23 by omega))
  rw [ho] at HD
  have HV:=Hd (innV_no (op:=x.op) (nm:=x.name) (i:=i) (by omega))
  rw [ho] at c0
  rw [ho] at HV
  clear ho
  have h2':((i:Int)==2)=false:=by simp;omega
  clear h2
  have e0:=B0.out.row.get0 c0
  have e1:=B0.out.row.get0 c1
  go_enter Tryz.func66,Tryz.ntmps66
  go_wp2_with (first
   | (refine wpList_load_mid rfl 96 _ rfl (w.heap.size+1) 0 rfl cs _ B0.out.sc.range Tryz.underlying96 rfl hsz.out ?_)
   | (refine wpList_store_row rfl 96 _ _ rfl (w.heap.size+1+1) cs.toArray rfl rfl 96 _ B0.out.out hsz2.out hsame0.out HS.out.ones ?_))
  have HOUT:=setRow_heap _ (w.heap.size+2) _ cs.toArray _ _ B0.out.out
  refine bodyPost_ret (results_cell_row rfl _ _ (w.heap.size+1+1) 96 _ (0,0) _ rfl HOUT Tryz.underlying96 rfl hsz2.out) rfl ?_
  have h4:=HS0.out.setRow (hzc.out _ B0.out.out) cs.toArray
  exact ⟨d,cs,by rw [HD.out];simp [ScD.inn,HV.out,innL],rfl,h4.mono (by simp) (by omega),below_setRow B0.out.low (by omega) _⟩
 case inr.inr.inr.inr.inr.inr.inr.inl =>
  obtain ⟨ho,h2⟩:=h
  have HD:=Hd (d.wit_no (x:=x) (i:=i) (show x.op≠23 by omega))
  rw [ho] at HD
  have HV:=Hd (innV_no (op:=x.op) (nm:=x.name) (i:=i) (by omega))
  rw [ho] at c0
  rw [ho] at HV
  clear ho
  have h2':¬ (2:Int)≤(i:Int):=by omega
  clear h2
  have e0:=B0.out.row.get0 c0
  have e1:=B0.out.row.get0 c1
  go_enter Tryz.func66,Tryz.ntmps66
  go_wp2_with (first
   | (refine wpList_load_mid rfl 96 _ rfl (w.heap.size+1) 0 rfl cs _ B0.out.sc.range Tryz.underlying96 rfl hsz.out ?_)
   | (refine wpList_store_row rfl 96 _ _ rfl (w.heap.size+1+1) cs.toArray rfl rfl 96 _ B0.out.out hsz2.out hsame0.out HS.out.ones ?_))
  have HOUT:=setRow_heap _ (w.heap.size+2) _ cs.toArray _ _ B0.out.out
  refine bodyPost_ret (results_cell_row rfl _ _ (w.heap.size+1+1) 96 _ (0,0) _ rfl HOUT Tryz.underlying96 rfl hsz2.out) rfl ?_
  have h4:=HS0.out.setRow (hzc.out _ B0.out.out) cs.toArray
  exact ⟨d,cs,by rw [HD.out];simp [ScD.inn,HV.out,innL],rfl,h4.mono (by simp) (by omega),below_setRow B0.out.low (by omega) _⟩
 case inr.inr.inr.inr.inr.inr.inr.inr =>
  obtain ⟨h22,h19,h20,h26,h23⟩:=h
  have HV:=Hd (innV_no (op:=x.op) (nm:=x.name) (i:=i) (by omega))
  have q22:(x.op==22)=false:=by simpa using h22
  have q19:(x.op==19)=false:=by simpa using h19
  have q20:(x.op==20)=false:=by simpa using h20
  have q26:(x.op==26)=false:=by simpa using h26
  have q23:(x.op==23)=false:=by simpa using h23
  have HL:=Hd (innL_no (nm:=x.name) h26)
  have HD:=Hd (d.wit_no (x:=x) (i:=i) h23)
  clear h22 h19 h20 h26 h23
  have e0:=B0.out.row.get0 c0
  have e1:=B0.out.row.get0 c1
  go_enter Tryz.func66,Tryz.ntmps66
  go_wp2_with (first
   | (refine wpList_load_mid rfl 96 _ rfl (w.heap.size+1) 0 rfl cs _ B0.out.sc.range Tryz.underlying96 rfl hsz.out ?_)
   | (refine wpList_store_row rfl 96 _ _ rfl (w.heap.size+1+1) cs.toArray rfl rfl 96 _ B0.out.out hsz2.out hsame0.out HS.out.ones ?_))
  have HOUT:=setRow_heap _ (w.heap.size+2) _ cs.toArray _ _ B0.out.out
  refine bodyPost_ret (results_cell_row rfl _ _ (w.heap.size+1+1) 96 _ (0,0) _ rfl HOUT Tryz.underlying96 rfl hsz2.out) rfl ?_
  have h4:=HS0.out.setRow (hzc.out _ B0.out.out) cs.toArray
  exact ⟨d,cs,by rw [HD.out];simp [ScD.inn,HV.out,HL.out],rfl,h4.mono (by simp) (by omega),below_setRow B0.out.low (by omega) _⟩
end Go.Proofs.YticpebgjbfanpaaGreatDoor

/- The program's scope of an argument (module.inner). -/
namespace Go.Proofs.YticpebgjbfanpaaGreatDoor
open Go.RowKit
structure BoxI (w u:World) (xs cs zs:List Value) (t:TypeId):Prop where
 row:CellsAt u w.heap.size 0 xs
 box:u.heap[w.heap.size+1]?=some (.cells cs.toArray t (0,0))
 out:u.heap[w.heap.size+2]?=some (.cells zs.toArray t (0,0))
 low:Below w.heap.size w u
 size:w.heap.size+3≤u.heap.size
theorem BoxI.start (w:World) (xs cs zs:List Value) (tx t:TypeId):BoxI w (((w.alloc (.cells xs.toArray tx)).alloc (.cells cs.toArray t)).alloc (.cells zs.toArray t)) xs cs zs t:=by
 have h:=BoxW.start w xs cs zs tx t
 have s1:(w.alloc (.cells xs.toArray tx)).heap.size=w.heap.size+1:=World.size_alloc _ _
 have s2:((w.alloc (.cells xs.toArray tx)).alloc (.cells cs.toArray t)).heap.size=w.heap.size+2:=by rw [World.size_alloc,s1]
 refine ⟨h.row,?_,h.out,h.low,h.size⟩
 have h2:=heap_alloc_new (w.alloc (.cells xs.toArray tx)) (.cells cs.toArray t)
 rw [s1] at h2
 exact (heap_alloc_old _ _ (by rw [s2];omega)).trans h2
theorem BoxI.below {w u u':World} {xs cs zs:List Value} {t:TypeId} (h:BoxI w u xs cs zs t) (hb:Below u.heap.size u u'):BoxI w u' xs cs zs t :=
 ⟨h.row.then hb (by have:=h.size;omega),(hb.block _ (by have:=h.size;omega)).trans h.box,(hb.block _ (by have:=h.size;omega)).trans h.out,belowThen h.low hb,Nat.le_trans h.size hb.size⟩
theorem BoxI.cell {w u:World} {xs cs zs:List Value} {t:TypeId} (h:BoxI w u xs cs zs t) {j:Nat} {v:Value} (hv:cs[j]?=some v):u.cell? ⟨w.heap.size+1,j,none⟩=some v:=by
 rw [cell_of_row u (w.heap.size+1) j _ _ _ h.box];simpa using hv
theorem BoxI.frozen {w u:World} {xs cs zs:List Value} {t:TypeId} (h:BoxI w u xs cs zs t) (j:Nat):u.frozen? ⟨w.heap.size+1,j,none⟩=false:=frozen_of_row u (w.heap.size+1) j _ _ h.box
theorem BoxI.range {w u:World} {xs cs zs:List Value} {t:TypeId} (h:BoxI w u xs cs zs t):u.rangeAt (w.heap.size+1) 0 cs:=fun j v hv=>by rw [Nat.zero_add];exact h.cell hv
theorem BoxI.setCell {w u:World} {xs cs zs:List Value} {t:TypeId} (h:BoxI w u xs cs zs t) (j:Nat) (v:Value):BoxI w (u.setCell ⟨w.heap.size+1,j,none⟩ v) xs (cs.set j v) zs t:=by
 refine ⟨fun k hk=>?_,?_,(heap_setCell_other _ _ _ _ (by simp)).trans h.out,h.low.setCell (by show w.heap.size≤w.heap.size+1;omega) v,by have:=h.size;simpa using this⟩
 ·rw [← h.row k hk]
  simp only [World.cell?]
  rw [heap_setCell_other _ _ _ _ (by simp)]
 ·rw [heap_setCell_same u (w.heap.size+1) j _ _ _ h.box]
  simp
set_option maxRecDepth 100000 in
set_option maxHeartbeats 6400000 in
theorem inner_p (x:ExprD) (xs:List Value) (i:Nat) (d:ScD) (cs:List Value) (w:World) (lo B C N:Nat) (hC:C≤268435456) (hi:i≤N) (h19:x.op=19→i≤2) (hB:B≤w.heap.size) (hlo:lo≤w.heap.size) (h:ScD.At w lo B C d cs) (hx:ExprD.At w B N x xs) :
 Calls Tryz.prog 61 #[.agg xs.toArray,.int .i64 i,.agg cs.toArray] w (ScW lo (C+1) (d.inn x.op x.name i) w):=by
 obtain ⟨aa,fa,ac,fc,vs,hh⟩:=hx.has
 have c0:=hh.op
 have c1:=hh.name
 have HS:=Hd (h.mono (B':=w.heap.size) (K':=C) hB (Nat.le_refl _))
 have hlen:=h.len
 have hsz:=Hd (show (Tryz.prog.info? 87).map (·.size)=some cs.length by rw [hlen];kernel_rfl)
 have hsz2:=Hd (show (Tryz.prog.info? 87).map (·.size)=some cs.toArray.size by rw [List.size_toArray,hlen];kernel_rfl)
 have hsame0:=Hd (show zero3.toArray.size=cs.toArray.size by rw [List.size_toArray,List.size_toArray,hlen];rfl)
 have B0:=Hd (BoxI.start w xs cs zero3 34 87)
 clear hh hx h hlen
 have hcase:(x.op=22∧i=1)∨(x.op=19∧i=2)∨(x.op=20∧2≤i)∨(x.op=26)∨(x.op=22∧i≠1)∨(x.op=19∧i<2)∨(x.op=20∧i<2)∨(x.op≠22∧x.op≠19∧x.op≠20∧x.op≠26):=by
  by_cases h:x.op=19
  ·have:=h19 h;omega
  ·omega
 clear h19
 have hzc:=Hd (show ∀ u:World,u.heap[w.heap.size+2]?=some (.cells zero3.toArray 87 (0,0))→u.cell? ⟨w.heap.size+2,0,none⟩=some (.slice none 0 0) from fun u hu=>by rw [cell_of_row u (w.heap.size+2) 0 _ _ _ hu];rfl)
 have hzs:=Hd (show ∀ (u:World) (K:Nat) (d3:ScD) (es:List Value),ScD.At u lo u.heap.size K d3 es→(Tryz.prog.info? 87).map (·.size)=some es.toArray.size∧zero3.toArray.size=es.toArray.size from fun u K d3 es h=>by
  rw [List.size_toArray,h.len];exact ⟨by kernel_rfl,rfl⟩)
 have HS0:=Hd ((HS.out.keep (Kept.of_below B0.out.low)).mono (B':=w.heap.size+3) (K':=C) (by omega) (Nat.le_refl _))
 rcases hcase with h | h | h | h | h | h | h | h
 case inl =>
  obtain ⟨ho,rfl⟩:=h
  have HV:=Hd (innV_yes (nm:=x.name) (.inl ⟨ho,rfl⟩))
  rw [ho] at c0 ⊢
  rw [ho] at HV
  clear ho
  have e0:=B0.out.row.get0 c0
  have e1:=B0.out.row.get0 c1
  go_enter Tryz.func61,Tryz.ntmps61
  go_wp2_with (refine wpList_load_mid rfl 87 _ rfl (w.heap.size+1) 0 rfl cs _ B0.out.range Tryz.underlying87 rfl hsz.out ?_)
  refine (variable_p d x.name cs _ lo w.heap.size C (by omega) (by have:=B0.out.size;omega) (by have:=B0.out.size;omega) (HS.out.keep (Kept.of_below B0.out.low))).mono ?_
  rintro e w3 ⟨d3,es3,hv3,rfl,hs3,hb3⟩
  have B3:=Hd (B0.out.below hb3)
  have S3:=Hd hs3
  have HV3:=Hd hv3
  have HZ3:=Hd (hzs.out _ _ _ _ hs3)
  clear hs3 hb3 hv3
  go_wp2_with (refine wpList_store_row rfl 87 _ _ rfl (w.heap.size+1+1) es3.toArray rfl rfl 87 _ B3.out.out HZ3.out.1 HZ3.out.2 S3.out.ones ?_)
  have HOUT:=setRow_heap w3 (w.heap.size+2) _ es3.toArray _ _ B3.out.out
  refine bodyPost_ret (results_cell_row rfl _ _ (w.heap.size+1+1) 87 _ (0,0) _ rfl HOUT Tryz.underlying87 rfl HZ3.out.1) rfl ?_
  have h4:=S3.out.setRow (hzc.out _ B3.out.out) es3.toArray
  exact ⟨d3,es3,by rw [HV3.out];simp [ScD.inn,HV.out,innL],rfl,h4.mono (by simp) (by omega),below_setRow B3.out.low (by omega) _⟩
 case inr.inl =>
  obtain ⟨ho,rfl⟩:=h
  have HV:=Hd (innV_yes (nm:=x.name) (.inr (.inl ⟨ho,rfl⟩)))
  rw [ho] at c0 ⊢
  rw [ho] at HV
  clear ho
  have e0:=B0.out.row.get0 c0
  have e1:=B0.out.row.get0 c1
  go_enter Tryz.func61,Tryz.ntmps61
  go_wp2_with (refine wpList_load_mid rfl 87 _ rfl (w.heap.size+1) 0 rfl cs _ B0.out.range Tryz.underlying87 rfl hsz.out ?_)
  refine (variable_p d x.name cs _ lo w.heap.size C (by omega) (by have:=B0.out.size;omega) (by have:=B0.out.size;omega) (HS.out.keep (Kept.of_below B0.out.low))).mono ?_
  rintro e w3 ⟨d3,es3,hv3,rfl,hs3,hb3⟩
  have B3:=Hd (B0.out.below hb3)
  have S3:=Hd hs3
  have HV3:=Hd hv3
  have HZ3:=Hd (hzs.out _ _ _ _ hs3)
  clear hs3 hb3 hv3
  go_wp2_with (refine wpList_store_row rfl 87 _ _ rfl (w.heap.size+1+1) es3.toArray rfl rfl 87 _ B3.out.out HZ3.out.1 HZ3.out.2 S3.out.ones ?_)
  have HOUT:=setRow_heap w3 (w.heap.size+2) _ es3.toArray _ _ B3.out.out
  refine bodyPost_ret (results_cell_row rfl _ _ (w.heap.size+1+1) 87 _ (0,0) _ rfl HOUT Tryz.underlying87 rfl HZ3.out.1) rfl ?_
  have h4:=S3.out.setRow (hzc.out _ B3.out.out) es3.toArray
  exact ⟨d3,es3,by rw [HV3.out];simp [ScD.inn,HV.out,innL],rfl,h4.mono (by simp) (by omega),below_setRow B3.out.low (by omega) _⟩
 case inr.inr.inl =>
  obtain ⟨ho,h2⟩:=h
  have HV:=Hd (innV_yes (nm:=x.name) (.inr (.inr ⟨ho,h2⟩)))
  rw [ho] at c0 ⊢
  rw [ho] at HV
  clear ho
  have h2':(2:Int)≤(i:Int):=by omega
  have e0:=B0.out.row.get0 c0
  have e1:=B0.out.row.get0 c1
  go_enter Tryz.func61,Tryz.ntmps61
  go_wp2_with (refine wpList_load_mid rfl 87 _ rfl (w.heap.size+1) 0 rfl cs _ B0.out.range Tryz.underlying87 rfl hsz.out ?_)
  refine (variable_p d x.name cs _ lo w.heap.size C (by omega) (by have:=B0.out.size;omega) (by have:=B0.out.size;omega) (HS.out.keep (Kept.of_below B0.out.low))).mono ?_
  rintro e w3 ⟨d3,es3,hv3,rfl,hs3,hb3⟩
  have B3:=Hd (B0.out.below hb3)
  have S3:=Hd hs3
  have HV3:=Hd hv3
  have HZ3:=Hd (hzs.out _ _ _ _ hs3)
  clear hs3 hb3 hv3
  go_wp2_with (refine wpList_store_row rfl 87 _ _ rfl (w.heap.size+1+1) es3.toArray rfl rfl 87 _ B3.out.out HZ3.out.1 HZ3.out.2 S3.out.ones ?_)
  have HOUT:=setRow_heap w3 (w.heap.size+2) _ es3.toArray _ _ B3.out.out
  refine bodyPost_ret (results_cell_row rfl _ _ (w.heap.size+1+1) 87 _ (0,0) _ rfl HOUT Tryz.underlying87 rfl HZ3.out.1) rfl ?_
  have h4:=S3.out.setRow (hzc.out _ B3.out.out) es3.toArray
  exact ⟨d3,es3,by rw [HV3.out];simp [ScD.inn,HV.out,innL],rfl,h4.mono (by simp) (by omega),below_setRow B3.out.low (by omega) _⟩
 case inr.inr.inr.inl =>
  have ho:x.op=26:=h
  clear h
  have HV:=Hd (innV_no (op:=x.op) (nm:=x.name) (i:=i) (by omega))
  rw [ho] at c0 ⊢
  rw [ho] at HV
  clear ho
  have e0:=B0.out.row.get0 c0
  have e1:=B0.out.row.get0 c1
  obtain ⟨va,la,ga,vc,lc,gc,rfl,hv,hls,hg,k1,k2,k3⟩:=HS.out
  have HLV:=Hd hv
  have HLL:=Hd hls
  have HLG:=Hd hg
  have K1:=Hd k1
  have K2:=Hd k2
  have K3:=Hd k3
  have e2:=B0.out.cell (j:=1) (v:=.slice la d.ls.length lc) rfl
  clear hv hls hg k1 k2 k3
  go_enter Tryz.func61,Tryz.ntmps61
  go_wp2_with fail
  refine (with_s d.ls x.name la lc _ lo lo w.heap.size (by have:=K2.out;omega) (by have:=B0.out.size;omega) (HLL.out.keep (Kept.of_below B0.out.low))).mono ?_
  rintro e u1 ⟨a1,c1',rfl,_,_,hn1,hb1⟩
  have B1:=Hd (B0.out.below hb1)
  have N1:=Hd hn1
  obtain ⟨m1,hm1⟩:∃ m,(d.ls++[x.name]).length=m:=⟨_,rfl⟩
  have HM1:=Hd hm1
  rw [hm1]
  clear hn1 hb1 hm1 e0 e1 e2
  have z1:=B1.out.cell (j:=1) (v:=.slice la d.ls.length lc) rfl
  have f1:=B1.out.frozen 1
  have B2:=Hd (show BoxI w (u1.setCell ⟨w.heap.size+1,1,none⟩ (.slice a1 m1 c1')) xs [.slice va d.vs.length vc,.slice a1 m1 c1',.slice ga d.gs.length gc] zero3 87 from B1.out.setCell 1 (.slice a1 m1 c1'))
  go_wp2_with (first
   | (refine wpList_load_mid rfl 87 _ rfl (w.heap.size+1) 0 rfl [.slice va d.vs.length vc,.slice a1 m1 c1',.slice ga d.gs.length gc] _ B2.out.range Tryz.underlying87 rfl (by kernel_rfl) ?_)
   | (refine wpList_store_row rfl 87 _ _ rfl (w.heap.size+1+1) #[.slice va d.vs.length vc,.slice a1 m1 c1',.slice ga d.gs.length gc] rfl rfl 87 _ B2.out.out (by kernel_rfl) rfl (one3 ..) ?_))
  have HOUT:=setRow_heap (u1.setCell ⟨w.heap.size+1,1,none⟩ (.slice a1 m1 c1')) (w.heap.size+2) _ #[.slice va d.vs.length vc,.slice a1 m1 c1',.slice ga d.gs.length gc] _ _ B2.out.out
  refine bodyPost_ret (results_cell_row rfl _ _ (w.heap.size+1+1) 87 _ (0,0) _ rfl HOUT Tryz.underlying87 rfl (by kernel_rfl)) rfl ?_
  have hlow:Kept lo w.heap.size w u1:=Kept.of_below B1.out.low
  have hs1:=B1.out.size
  have hz:=B1.out.cell (j:=0) (v:=.slice va d.vs.length vc) rfl
  have A1:ScD.At (u1.setCell ⟨w.heap.size+1,1,none⟩ (.slice a1 m1 c1')) lo u1.heap.size (C+1) ⟨d.vs,d.ls++[x.name],d.gs⟩ [.slice va d.vs.length vc,.slice a1 m1 c1',.slice ga d.gs.length gc]:=by
   refine ⟨va,a1,ga,vc,c1',gc,by rw [HM1.out],((HLV.out.keep hlow).mono (by omega)).setCell hz 1 _,N1.out.setCell hz 1 _,((HLG.out.keep hlow).mono (by omega)).setCell hz 1 _,?_,?_,?_⟩
   ·have h1:=K1.out
    show d.vs.length≤C+1
    omega
   ·have h1:=K2.out
    rw [List.length_append]
    show d.ls.length+1≤C+1
    omega
   ·have h1:=K3.out
    show d.gs.length≤C+1
    omega
  have A2:=A1.setRow (hzc.out _ B2.out.out) #[.slice va d.vs.length vc,.slice a1 m1 c1',.slice ga d.gs.length gc]
  exact ⟨_,[.slice va d.vs.length vc,.slice a1 m1 c1',.slice ga d.gs.length gc],by simp [ScD.inn,HV.out,innL],rfl,A2.mono (by simp) (Nat.le_refl _),below_setRow B2.out.low (by omega) _⟩
 case inr.inr.inr.inr.inl =>
  obtain ⟨ho,h2⟩:=h
  have HV:=Hd (innV_no (op:=x.op) (nm:=x.name) (i:=i) (by omega))
  rw [ho] at c0 ⊢
  rw [ho] at HV
  clear ho
  have h2':((i:Int)==1)=false:=by simp;omega
  clear h2
  have e0:=B0.out.row.get0 c0
  have e1:=B0.out.row.get0 c1
  go_enter Tryz.func61,Tryz.ntmps61
  go_wp2_with (first
   | (refine wpList_load_mid rfl 87 _ rfl (w.heap.size+1) 0 rfl cs _ B0.out.range Tryz.underlying87 rfl hsz.out ?_)
   | (refine wpList_store_row rfl 87 _ _ rfl (w.heap.size+1+1) cs.toArray rfl rfl 87 _ B0.out.out hsz2.out hsame0.out HS.out.ones ?_))
  have HOUT:=setRow_heap _ (w.heap.size+2) _ cs.toArray _ _ B0.out.out
  refine bodyPost_ret (results_cell_row rfl _ _ (w.heap.size+1+1) 87 _ (0,0) _ rfl HOUT Tryz.underlying87 rfl hsz2.out) rfl ?_
  have h4:=HS0.out.setRow (hzc.out _ B0.out.out) cs.toArray
  exact ⟨d,cs,by simp [ScD.inn,HV.out,innL],rfl,h4.mono (by simp) (by omega),below_setRow B0.out.low (by omega) _⟩
 case inr.inr.inr.inr.inr.inl =>
  obtain ⟨ho,h2⟩:=h
  have HV:=Hd (innV_no (op:=x.op) (nm:=x.name) (i:=i) (by omega))
  rw [ho] at c0 ⊢
  rw [ho] at HV
  clear ho
  have h2':¬ (2:Int)≤(i:Int):=by omega
  clear h2
  have e0:=B0.out.row.get0 c0
  have e1:=B0.out.row.get0 c1
  go_enter Tryz.func61,Tryz.ntmps61
  go_wp2_with (first
   | (refine wpList_load_mid rfl 87 _ rfl (w.heap.size+1) 0 rfl cs _ B0.out.range Tryz.underlying87 rfl hsz.out ?_)
   | (refine wpList_store_row rfl 87 _ _ rfl (w.heap.size+1+1) cs.toArray rfl rfl 87 _ B0.out.out hsz2.out hsame0.out HS.out.ones ?_))
  have HOUT:=setRow_heap _ (w.heap.size+2) _ cs.toArray _ _ B0.out.out
  refine bodyPost_ret (results_cell_row rfl _ _ (w.heap.size+1+1) 87 _ (0,0) _ rfl HOUT Tryz.underlying87 rfl hsz2.out) rfl ?_
  have h4:=HS0.out.setRow (hzc.out _ B0.out.out) cs.toArray
  exact ⟨d,cs,by simp [ScD.inn,HV.out,innL],rfl,h4.mono (by simp) (by omega),below_setRow B0.out.low (by omega) _⟩
 case inr.inr.inr.inr.inr.inr.inl =>
  obtain ⟨ho,h2⟩:=h
  have HV:=Hd (innV_no (op:=x.op) (nm:=x.name) (i:=i) (by omega))
  rw [ho] at c0 ⊢
  rw [ho] at HV
  clear ho
  have h2':¬ (2:Int)≤(i:Int):=by omega
  clear h2
  have e0:=B0.out.row.get0 c0
  have e1:=B0.out.row.get0 c1
  go_enter Tryz.func61,Tryz.ntmps61
  go_wp2_with (first
   | (refine wpList_load_mid rfl 87 _ rfl (w.heap.size+1) 0 rfl cs _ B0.out.range Tryz.underlying87 rfl hsz.out ?_)
   | (refine wpList_store_row rfl 87 _ _ rfl (w.heap.size+1+1) cs.toArray rfl rfl 87 _ B0.out.out hsz2.out hsame0.out HS.out.ones ?_))
  have HOUT:=setRow_heap _ (w.heap.size+2) _ cs.toArray _ _ B0.out.out
  refine bodyPost_ret (results_cell_row rfl _ _ (w.heap.size+1+1) 87 _ (0,0) _ rfl HOUT Tryz.underlying87 rfl hsz2.out) rfl ?_
  have h4:=HS0.out.setRow (hzc.out _ B0.out.out) cs.toArray
  exact ⟨d,cs,by simp [ScD.inn,HV.out,innL],rfl,h4.mono (by simp) (by omega),below_setRow B0.out.low (by omega) _⟩
 case inr.inr.inr.inr.inr.inr.inr =>
  obtain ⟨h22,h19,h20,h26⟩:=h
  have HV:=Hd (innV_no (op:=x.op) (nm:=x.name) (i:=i) (by omega))
  have q22:(x.op==22)=false:=by simpa using h22
  have q19:(x.op==19)=false:=by simpa using h19
  have q20:(x.op==20)=false:=by simpa using h20
  have q26:(x.op==26)=false:=by simpa using h26
  have HL:=Hd (innL_no (nm:=x.name) h26)
  clear h22 h19 h20 h26
  have e0:=B0.out.row.get0 c0
  have e1:=B0.out.row.get0 c1
  go_enter Tryz.func61,Tryz.ntmps61
  go_wp2_with (first
   | (refine wpList_load_mid rfl 87 _ rfl (w.heap.size+1) 0 rfl cs _ B0.out.range Tryz.underlying87 rfl hsz.out ?_)
   | (refine wpList_store_row rfl 87 _ _ rfl (w.heap.size+1+1) cs.toArray rfl rfl 87 _ B0.out.out hsz2.out hsame0.out HS.out.ones ?_))
  have HOUT:=setRow_heap _ (w.heap.size+2) _ cs.toArray _ _ B0.out.out
  refine bodyPost_ret (results_cell_row rfl _ _ (w.heap.size+1+1) 87 _ (0,0) _ rfl HOUT Tryz.underlying87 rfl hsz2.out) rfl ?_
  have h4:=HS0.out.setRow (hzc.out _ B0.out.out) cs.toArray
  exact ⟨d,cs,by simp [ScD.inn,HV.out,HL.out],rfl,h4.mono (by simp) (by omega),below_setRow B0.out.low (by omega) _⟩
end Go.Proofs.YticpebgjbfanpaaGreatDoor
