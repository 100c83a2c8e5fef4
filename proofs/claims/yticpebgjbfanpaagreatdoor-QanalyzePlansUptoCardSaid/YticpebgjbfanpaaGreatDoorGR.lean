/- What stands in scope,and what the check of a program says of calls,variables and labels: plain functions. No program here. -/
import Derived.Test.YticpebgjbfanpaaGreatDoorGV
import Derived.Test.YticpebgjbfanpaaGreatDoorGA
import Derived.StillTailTactics
namespace Go.Proofs.YticpebgjbfanpaaGreatDoor
open Go.RowKit
def gsF (l:List FuncD):List (ByteArray×Int):=l.map fun f=>(f.name,(f.params.length:Int))
theorem gsF_step (l:List FuncD) {k:Nat} (h:k<l.length):gsF (l.take (k+1))=gsF (l.take k)++[(l[k].name,(l[k].params.length:Int))]:=by
 unfold gsF
 rw [← List.take_append_getElem h,List.map_append]
 rfl
def pgs (l:List ParD):List (ByteArray×Int):=(l.filter fun p=>!p.value).map fun p=>(p.name,0)
def ScD.push (d:ScD) (p:ParD):ScD:=if p.value then ⟨d.vs++[p.name],d.ls,d.gs⟩ else ⟨d.vs,d.ls,d.gs++[(p.name,0)]⟩
def ScD.par (d:ScD) (l:List ParD):ScD:=⟨d.vs++pvars l,d.ls,d.gs++pgs l⟩
theorem ScD.par_step (d:ScD) {l:List ParD} {k:Nat} (h:k<l.length):d.par (l.take (k+1))=(d.par (l.take k)).push l[k]:=by
 unfold ScD.par ScD.push
 rw [pvars_step l h]
 have hg:pgs (l.take (k+1))=pgs (l.take k)++(if l[k].value then [] else [(l[k].name,0)]):=by
  unfold pgs
  rw [← List.take_append_getElem h,List.filter_append,List.map_append]
  congr 1
  cases hv:l[k].value<;>simp [hv]
 rw [hg]
 cases hv:l[k].value<;>simp
def ScD.fns (d:ScD) (l:List FuncD):ScD:=⟨d.vs,d.ls,d.gs++gsF l⟩
def innL (op:Int) (nm:ByteArray):List ByteArray:=if op=26 then [nm] else []
theorem innL_no {op:Int} {nm:ByteArray} (h:op≠26):innL op nm=[]:=by unfold innL;rw [if_neg h]
def ScD.inn (d:ScD) (op:Int) (nm:ByteArray) (i:Nat):ScD:=⟨d.vs++innV op nm i,d.ls++innL op nm,d.gs⟩
def ScD.wit (d:ScD) (x:ExprD) (i:Nat):ScD:=if x.op=23 then d.fns x.funcs else d.inn x.op x.name i
theorem ScD.wit_def (d:ScD) {x:ExprD} {i:Nat} (h:x.op=23):d.wit x i=d.fns x.funcs:=by unfold ScD.wit;rw [if_pos h]
theorem ScD.wit_no (d:ScD) {x:ExprD} {i:Nat} (h:x.op≠23):d.wit x i=d.inn x.op x.name i:=by unfold ScD.wit;rw [if_neg h]
theorem ScD.fns_nil (d:ScD):d.fns []=d:=by unfold ScD.fns gsF;simp
theorem ScD.wit_inn (d:ScD) {x:ExprD} (i:Nat) (h:x.op≠23→x.funcs=[]):d.wit x i=(d.fns x.funcs).inn x.op x.name i:=by
 by_cases h23:x.op=23
 ·rw [d.wit_def h23]
  unfold ScD.inn
  rw [h23]
  simp [innV,innL]
 ·rw [d.wit_no h23,h h23,ScD.fns_nil]
def findG (gs:List (ByteArray×Int)) (s:ByteArray):Int:=match gs.reverse.find? (fun g=>g.1.toList==s.toList) with | some g=>g.2 | none=>-1
theorem findG_step (gs:List (ByteArray×Int)) (s:ByteArray) {k:Nat} (h:k<gs.length):findG (gs.take (k+1)) s=if gs[k].1.toList==s.toList then gs[k].2 else findG (gs.take k) s:=by
 unfold findG
 rw [← List.take_append_getElem h,List.reverse_append,List.reverse_singleton,List.singleton_append,List.find?_cons]
 cases gs[k].1.toList==s.toList<;>rfl
theorem findG_mem {gs:List (ByteArray×Int)} {s:ByteArray} (h:findG gs s≠-1):∃ g∈gs,g.1.toList=s.toList∧findG gs s=g.2:=by
 unfold findG at h ⊢
 split at h
 ·rename_i g hg
  have h1:=List.find?_some hg
  have h2:=List.mem_of_find?_eq_some hg
  exact ⟨g,List.mem_reverse.1 h2,by simpa using h1,rfl⟩
 ·exact absurd rfl h
def arE (k:Int) (n:Nat):Int:=if k=n then 0 else 17
def calE (R:ByteArray→Int) (x:ExprD) (d:ScD):Int:=if 0≤findG d.gs x.name then arE (findG d.gs x.name) x.args.length else if R x.name<0 then 16 else arE (R x.name) x.args.length
def nodE (R:ByteArray→Int) (x:ExprD) (d:ScD):Int :=
 if x.op=21 then calE R x d else if x.op=4 then (if memB d.vs x.name then 0 else 16) else if x.op=27 then (if memB d.ls x.name then 0 else 16) else 0
theorem nodE_21 {R:ByteArray→Int} {x:ExprD} {d:ScD} (h:x.op=21):nodE R x d=calE R x d:=by unfold nodE;rw [if_pos h]
theorem nodE_4 {R:ByteArray→Int} {x:ExprD} {d:ScD} (h:x.op=4):nodE R x d=if memB d.vs x.name then 0 else 16:=by unfold nodE;rw [if_neg (by omega),if_pos h]
theorem nodE_27 {R:ByteArray→Int} {x:ExprD} {d:ScD} (h:x.op=27):nodE R x d=if memB d.ls x.name then 0 else 16:=by unfold nodE;rw [if_neg (by omega),if_neg (by omega),if_pos h]
theorem nodE_no {R:ByteArray→Int} {x:ExprD} {d:ScD} (h1:x.op≠21) (h2:x.op≠4) (h3:x.op≠27):nodE R x d=0:=by unfold nodE;rw [if_neg h1,if_neg h2,if_neg h3]
theorem calE_loc {R:ByteArray→Int} {x:ExprD} {d:ScD} {n:Int} (h:findG d.gs x.name=n) (h0:0≤n):calE R x d=arE n x.args.length:=by unfold calE;rw [h,if_pos h0]
theorem calE_no {R:ByteArray→Int} {x:ExprD} {d:ScD} (h:findG d.gs x.name=-1) (hr:R x.name=-1):calE R x d=16:=by unfold calE;rw [h,hr];rfl
theorem calE_glob {R:ByteArray→Int} {x:ExprD} {d:ScD} {n:Int} (h:findG d.gs x.name=-1) (hr:R x.name=n) (h0:0≤n):calE R x d=arE n x.args.length:=by unfold calE;rw [h,hr,if_neg (by omega),if_neg (by omega)]
theorem arE_same {k:Int} {n:Nat} (h:k=n):arE k n=0:=by unfold arE;rw [if_pos h]
theorem arE_other {k:Int} {n:Nat} (h:k≠n):arE k n=17:=by unfold arE;rw [if_neg h]
def firstE:List Int→Int
 | []=>0
 | e::r=>if e≠0 then e else firstE r
def visF (V:ExprD→ScD→Int) (l:List FuncD) (d:ScD) (k:Nat):Int:=firstE ((l.drop k).map fun f=>V f.body (d.par f.params))
def visA (V:ExprD→ScD→Int) (x:ExprD) (d:ScD) (k:Nat):Int:=firstE (((List.range x.args.length).drop k).map fun i=>V (x.args.getD i default) (d.inn x.op x.name i))
def stepE (R:ByteArray→Int) (V:ExprD→ScD→Int) (x:ExprD) (d:ScD):Int :=
 if nodE R x d≠0 then nodE R x d else if visF V x.funcs (d.fns x.funcs) 0≠0 then visF V x.funcs (d.fns x.funcs) 0 else visA V x (d.fns x.funcs) 0
def visE (R:ByteArray→Int):Nat→ExprD→ScD→Int
 | 0,x,d=>nodE R x d
 | m+1,x,d=>stepE R (visE R m) x d
theorem visF_end (V:ExprD→ScD→Int) (l:List FuncD) (d:ScD):visF V l d l.length=0:=by unfold visF;rw [List.drop_length];rfl
theorem visF_step (V:ExprD→ScD→Int) {l:List FuncD} (d:ScD) {k:Nat} (h:k<l.length):visF V l d k=if V l[k].body (d.par l[k].params)≠0 then V l[k].body (d.par l[k].params) else visF V l d (k+1):=by
 unfold visF
 rw [List.drop_eq_getElem_cons h]
 rfl
theorem visA_end (V:ExprD→ScD→Int) (x:ExprD) (d:ScD):visA V x d x.args.length=0:=by
 unfold visA
 rw [List.drop_eq_nil_of_le (by simp)]
 rfl
theorem visA_step (V:ExprD→ScD→Int) {x:ExprD} (d:ScD) {k:Nat} (h:k<x.args.length):visA V x d k=if V x.args[k] (d.inn x.op x.name k)≠0 then V x.args[k] (d.inn x.op x.name k) else visA V x d (k+1):=by
 unfold visA
 rw [List.drop_eq_getElem_cons (by simpa using h)]
 simp only [List.getElem_range,List.map_cons,firstE,List.getD_eq_getElem?_getD,List.getElem?_eq_getElem h,Option.getD_some]
end Go.Proofs.YticpebgjbfanpaaGreatDoor

/- The reference's scopes: functions,params,within. -/
namespace Go.Proofs.YticpebgjbfanpaaGreatDoor
open Go.RowKit
theorem NmsAt.setRow {u:World} {lo B:Nat} {l:List ByteArray} {a:Option Addr} (h:NmsAt u lo B l a) {q:Nat} {x:Option Addr} {n c:Nat} (hq:u.cell? ⟨q,0,none⟩=some (.slice x n c)) (ds:Array Value):NmsAt (u.setRow q ds) lo B l a:=by
 rcases h with h | ⟨b,h1,h2,h3,h4⟩
 ·exact .inl h
 ·cases hl:l with
  | nil=>exact .inl rfl
  | cons y r =>
    have h0:=h4 0 y (by rw [hl];rfl)
    have hb:b≠q:=fun e=>by
     subst e
     rw [hq] at h0
     cases h0
    rw [← hl]
    refine .inr ⟨b,h1,h2,h3,fun j z hz=>?_⟩
    rw [← h4 j z hz]
    simp only [World.cell?]
    rw [setRow_other _ _ _ _ (by omega)]
theorem SgsAt.setRow {u:World} {lo B:Nat} {l:List (ByteArray×Int)} {a:Option Addr} (h:SgsAt u lo B l a) {q:Nat} {x:Option Addr} {n c:Nat} (hq:u.cell? ⟨q,0,none⟩=some (.slice x n c)) (ds:Array Value):SgsAt (u.setRow q ds) lo B l a:=by
 rcases h with h | ⟨b,h1,h2,h3,h4⟩
 ·exact .inl h
 ·cases hl:l with
  | nil=>exact .inl rfl
  | cons y r =>
    have h0:=h4 0 (.string y.1) (by rw [hl];rfl)
    have hb:b≠q:=fun e=>by
     subst e
     rw [hq] at h0
     cases h0
    rw [← hl]
    refine .inr ⟨b,h1,h2,h3,fun j z hz=>?_⟩
    rw [← h4 j z hz]
    simp only [World.cell?]
    rw [setRow_other _ _ _ _ (by omega)]
theorem ScD.At.setRow {u:World} {lo B C:Nat} {d:ScD} {es:List Value} (h:ScD.At u lo B C d es) {q:Nat} {x:Option Addr} {n c:Nat} (hq:u.cell? ⟨q,0,none⟩=some (.slice x n c)) (ds:Array Value):ScD.At (u.setRow q ds) lo B C d es:=by
 obtain ⟨va,la,ga,vc,lc,gc,h0,h1,h2,h3,h4⟩:=h
 exact ⟨va,la,ga,vc,lc,gc,h0,h1.setRow hq ds,h2.setRow hq ds,h3.setRow hq ds,h4⟩
theorem ScD.At.cell0 {u:World} {lo B C:Nat} {d:ScD} {es:List Value} (h:ScD.At u lo B C d es):∃ x n c,es[0]?=some (.slice x n c):=by
 obtain ⟨va,la,ga,vc,lc,gc,rfl,_⟩:=h
 exact ⟨_,_,_,rfl⟩
theorem ScD.At.ones {u:World} {lo B C:Nat} {d:ScD} {es:List Value} (h:ScD.At u lo B C d es):es.toArray.all (·.oneCell')=true:=by
 obtain ⟨va,la,ga,vc,lc,gc,rfl,_⟩:=h
 exact one3 ..
structure BoxM (w u:World) (cs zs:List Value) (t:TypeId):Prop where
 box:u.heap[w.heap.size]?=some (.cells cs.toArray t (0,0))
 out:u.heap[w.heap.size+1]?=some (.cells zs.toArray t (0,0))
 low:Below w.heap.size w u
 size:w.heap.size+2≤u.heap.size
theorem BoxM.start (w:World) (cs zs:List Value) (t:TypeId):BoxM w ((w.alloc (.cells cs.toArray t)).alloc (.cells zs.toArray t)) cs zs t:=by
 have hB:=Box2.start w cs zs t t
 exact ⟨(heap_alloc_old _ _ (by rw [World.size_alloc];omega)).trans (heap_alloc_new w _),hB.out,hB.low,hB.size⟩
theorem BoxM.below {w u u':World} {cs zs:List Value} {t:TypeId} (h:BoxM w u cs zs t) (hb:Below u.heap.size u u'):BoxM w u' cs zs t :=
 ⟨(hb.block _ (by have:=h.size;omega)).trans h.box,(hb.block _ (by have:=h.size;omega)).trans h.out,belowThen h.low hb,Nat.le_trans h.size hb.size⟩
theorem BoxM.set {w u:World} {cs zs:List Value} {t:TypeId} (h:BoxM w u cs zs t) (ds:List Value):BoxM w (u.setRow w.heap.size ds.toArray) ds zs t :=
 ⟨setRow_heap _ _ _ _ _ _ h.box,(setRow_other _ _ _ _ (by omega)).trans h.out,below_setRow h.low (Nat.le_refl _) _,by have:=h.size;simpa using this⟩
theorem BoxM.cell {w u:World} {cs zs:List Value} {t:TypeId} (h:BoxM w u cs zs t) {j:Nat} {v:Value} (hv:cs[j]?=some v):u.cell? ⟨w.heap.size,j,none⟩=some v:=by
 rw [cell_of_row u w.heap.size j _ _ _ h.box];simpa using hv
theorem BoxM.range {w u:World} {cs zs:List Value} {t:TypeId} (h:BoxM w u cs zs t):u.rangeAt w.heap.size 0 cs:=fun j v hv=>by rw [Nat.zero_add];exact h.cell hv
theorem wpStill_load {P:Program} {ops:Array Oper} {w:World} {Q:Act→Prop} {a:Act} {o:Oper} {rest:List Oper} (hg:o.guard=none) (ty:TypeId) (x:Operand) (ho:o.op=.load ty x) (b off:Nat) (hx:a.eval x=.pointer (some ⟨b,off,none⟩))
 (cs:List Value) (d:TypeDesc) (hc:w.rangeAt b off cs) (hu:P.underlying ty=some d) (hd:d.isRow=true) (hi:(P.info? ty).map (·.size)=some cs.length) (h:wpStill P ops w Q rest (a.put o.dst (.agg cs.toArray))):wpStill P ops w Q (o::rest) a:=by
 refine wpStill_step fun K hK=>?_
 have hw:Region.wanted o (yielded ops a.tmps)=true:=by unfold Region.wanted;rw [hg]
 rw [if_pos hw]
 unfold Oper.still execOp
 simp only [ho,hx,Instr.loadAt,Instr.sureAddr,Sem.run_bind,Sem.run_pure,Result.andThen_ok,run_loadVar_mid w b off ty cs d hc hu hd hi]
 exact ⟨rfl,hK _ h⟩
set_option maxRecDepth 100000 in
set_option maxHeartbeats 3200000 in
theorem functions_r (l:List FuncD) (a:Option Addr) (c:Nat) (d:ScD) (cs:List Value) (w:World) (lo B C N:Nat) (hC:C≤536870912) (hN:N≤536870912) (hl:l.length≤N) (hB:B≤w.heap.size) (hlo:lo≤w.heap.size) (h:ScD.At w lo B C d cs) (hA:FuncsAt w B N l a) :
 Calls Tryz.prog 65 #[.agg cs.toArray,.slice a l.length c] w (ScR lo (C+l.length) ⟨d.vs,d.ls,d.gs++gsF l⟩ w):=by
 have HA:=Hd hA
 have HS:=Hd (h.mono (B':=w.heap.size) (K':=C) hB (Nat.le_refl _))
 have hlen:=h.len
 have hsz:=Hd (show (Tryz.prog.info? 96).map (·.size)=some cs.length by rw [hlen];kernel_rfl)
 have B0:=Hd (BoxM.start w cs zero3 96)
 clear hA h hlen
 go_enter Tryz.func65,Tryz.ntmps65
 go_wp2_with fail
 go_simp
 go_loopw [5] (fun i wr=>∃ k:Nat,k≤l.length∧i=.int .i64 k∧Hid (∃ es,BoxM w wr es zero3 96∧ScD.At wr lo wr.heap.size (C+k) ⟨d.vs,d.ls,d.gs++gsF (l.take k)⟩ es)) (fun i _=>l.length-(intOf i).toNat)
 case atStart =>
  refine ⟨0,by omega,rfl,Hd ⟨cs,B0.out,?_⟩⟩
  have h1:=(HS.out.keep (Kept.of_below B0.out.low)).mono (K':=C+0) (show w.heap.size≤_ from B0.out.low.size) (by omega)
  have e:d.gs++gsF (l.take 0)=d.gs:=by simp [gsF]
  rw [e]
  exact h1
 case round =>
  obtain ⟨w1,rfl⟩:∃ w1,w1=wr:=⟨wr,rfl⟩
  obtain ⟨k,hk,rfl,HR⟩:=hrel
  obtain ⟨es,hb1,hs1⟩:=HR.out
  have B1:=Hd hb1
  have S1:=Hd hs1
  have hesz:=Hd (show (Tryz.prog.info? 96).map (·.size)=some es.length by rw [hs1.len];kernel_rfl)
  clear hb1 hs1 HR
  by_cases hlt:k<l.length
  ·obtain ⟨b,p,rfl,hb,hget⟩:=HA.out.get (by intro h;simp [h] at hlt)
   obtain ⟨fs,g1,g2⟩:=hget k hlt
   obtain ⟨pa,pc,bs,gh⟩:=g2.has
   have HBw:=Hd (show Below B w w1.drew from (B1.out.low.mono hB).trans ⟨rfl,rfl,rfl,Nat.le_refl _,fun _ _=>rfl⟩)
   have f0:=(g1.below HBw.out hb).get0' gh.name
   have f1:=g1.below HBw.out hb 1 (by rw [gh.len];omega)
   rw [gh.params] at f1
   have hpl:l[k].params.length≤N:=gh.hp
   clear g1 g2 gh hget
   obtain ⟨w2,hw2⟩:∃ w2,w2=w1.drew:=⟨_,rfl⟩
   have D2:=Hd (show Below w1.heap.size w1 w2 by rw [hw2];exact ⟨rfl,rfl,rfl,Nat.le_refl _,fun _ _=>rfl⟩)
   have B2:=Hd (B1.out.below D2.out)
   have S2:=Hd ((S1.out.keep (Kept.of_below D2.out)).mono D2.out.size (Nat.le_refl _))
   have HW2:=Hd hw2
   rw [← hw2] at f0 f1
   clear hw2
   go_wp2_with fail
   refine wp_region_still_tail 12 (by kernel_rfl) (by kernel_rfl) ?_
   simp only [List.take_succ_cons,List.take_zero,List.drop_succ_cons,List.drop_zero]
   change wpStill _ _ w1.drew (fun a'=>wpList _ _ _ _ a' w1.drew) _ _
   rw [← HW2.out]
   refine wpStill_load rfl 96 _ rfl w.heap.size 0 rfl es _ B2.out.range Tryz.underlying96 rfl hesz.out ?_
   simp only [Act.put]
   repeat still_step
   refine wpStill_nil ?_
   go_wp2_with fail
   refine (function_r _ l[k].name (l[k].params.length:Int) es w2 lo w2.heap.size (C+k) (by omega) (Nat.le_refl _) (Nat.le_trans hlo B2.out.low.size) S2.out).mono ?_
   rintro e w3 ⟨es3,rfl,hs3,hb3⟩
   have B3:=Hd (B2.out.below hb3)
   have S3:=Hd hs3
   have hes3:=hs3.len
   have hez3:=Hd (show (Tryz.prog.info? 96).map (·.size)=some es3.toArray.size by rw [List.size_toArray,hes3];kernel_rfl)
   have hsame:=Hd (show es.toArray.size=es3.toArray.size by rw [List.size_toArray,List.size_toArray,hes3];exact S2.out.len)
   clear hs3 hb3 hes3
   go_wp2_with (refine wpList_store_row rfl 96 _ _ rfl w.heap.size es3.toArray rfl rfl 96 _ B3.out.box hez3.out hsame.out S3.out.ones ?_)
   have HN:=Hd (show ∃ es',BoxM w (w3.setRow w.heap.size es3.toArray) es' zero3 96∧ScD.At (w3.setRow w.heap.size es3.toArray) lo (w3.setRow w.heap.size es3.toArray).heap.size (C+(k+1)) ⟨d.vs,d.ls,d.gs++gsF (l.take (k+1))⟩ es' by
    obtain ⟨x,n,c',h0⟩:=S2.out.cell0
    have h4:=S3.out.setRow (B3.out.cell h0) es3.toArray
    refine ⟨es3,B3.out.set es3,?_⟩
    rw [gsF_step l hlt,← List.append_assoc]
    exact h4.mono (by simp) (by omega))
   go_roundw
   case rel=>exact ⟨k+1,by omega,by go_num,HN⟩
   case measure=>simp [intOf];omega
  ·obtain rfl:k=l.length:=by omega
   have hesz2:=Hd (show (Tryz.prog.info? 96).map (·.size)=some es.toArray.size by rw [List.size_toArray];exact hesz.out)
   have hsame:=Hd (show zero3.toArray.size=es.toArray.size by rw [List.size_toArray,List.size_toArray,S1.out.len];rfl)
   go_wp2_with (first
    | (refine wpList_load_mid rfl 96 _ rfl w.heap.size 0 rfl es _ B1.out.range Tryz.underlying96 rfl hesz.out ?_)
    | (refine wpList_store_row rfl 96 _ _ rfl (w.heap.size+1) es.toArray rfl rfl 96 _ B1.out.out hesz2.out hsame.out S1.out.ones ?_))
   have HOUT:=setRow_heap w1 (w.heap.size+1) _ es.toArray _ _ B1.out.out
   refine bodyPost_ret (results_cell_row rfl _ _ (w.heap.size+1) 96 _ (0,0) _ rfl HOUT Tryz.underlying96 rfl hesz2.out) rfl ?_
   have h4:=S1.out.setRow (q:=w.heap.size+1) (x:=none) (n:=0) (c:=0) (by rw [cell_of_row w1 (w.heap.size+1) 0 _ _ _ B1.out.out];rfl) es.toArray
   rw [List.take_length] at h4
   exact ⟨es,rfl,h4.mono (by simp) (Nat.le_refl _),below_setRow B1.out.low (by omega) _⟩
def ScW (lo C:Nat) (D:ScD) (w:World) (e:Ending) (w':World):Prop:=∃ d cs,d=D∧e=.returned (.agg cs.toArray)∧ScD.At w' lo w'.heap.size C d cs∧Below w.heap.size w w'
theorem ScR.v {lo C C':Nat} {d:ScD} {w w':World} {e:Ending} (h:ScR lo C d w e w') (hC:C≤C'):ScW lo C' d w e w':=by
 obtain ⟨cs,h1,h2,h3⟩:=h
 exact ⟨d,cs,rfl,h1,h2.mono (Nat.le_refl _) hC,h3⟩
structure BoxP (w u:World) (cs fs zs:List Value) (t:TypeId):Prop where
 box:u.heap[w.heap.size]?=some (.cells cs.toArray t (0,0))
 row:CellsAt u (w.heap.size+1) 0 fs
 out:u.heap[w.heap.size+2]?=some (.cells zs.toArray t (0,0))
 low:Below w.heap.size w u
 size:w.heap.size+3≤u.heap.size
theorem BoxP.start (w:World) (cs fs zs:List Value) (t tf:TypeId):BoxP w (((w.alloc (.cells cs.toArray t)).alloc (.cells fs.toArray tf)).alloc (.cells zs.toArray t)) cs fs zs t:=by
 have s1:(w.alloc (.cells cs.toArray t)).heap.size=w.heap.size+1:=World.size_alloc _ _
 have s2:((w.alloc (.cells cs.toArray t)).alloc (.cells fs.toArray tf)).heap.size=w.heap.size+2:=by rw [World.size_alloc,s1]
 refine ⟨?_,?_,?_,belowThen (belowThen (belowBox w _) (belowBox _ _)) (belowBox _ _),by rw [World.size_alloc,s2];omega⟩
 ·exact (heap_alloc_old _ _ (by rw [s2];omega)).trans ((heap_alloc_old _ _ (by rw [s1];omega)).trans (heap_alloc_new w _))
 ·have h:=(box_at (w.alloc (.cells cs.toArray t)) fs tf).then (belowBox _ (.cells zs.toArray t)) (by rw [s2,s1];omega)
  rw [s1] at h
  exact h
 ·have h:=heap_alloc_new ((w.alloc (.cells cs.toArray t)).alloc (.cells fs.toArray tf)) (.cells zs.toArray t)
  rw [s2] at h
  exact h
theorem BoxP.below {w u u':World} {cs fs zs:List Value} {t:TypeId} (h:BoxP w u cs fs zs t) (hb:Below u.heap.size u u'):BoxP w u' cs fs zs t :=
 ⟨(hb.block _ (by have:=h.size;omega)).trans h.box,h.row.then hb (by have:=h.size;omega),(hb.block _ (by have:=h.size;omega)).trans h.out,belowThen h.low hb,Nat.le_trans h.size hb.size⟩
theorem BoxP.set {w u:World} {cs fs zs:List Value} {t:TypeId} (h:BoxP w u cs fs zs t) (ds:List Value):BoxP w (u.setRow w.heap.size ds.toArray) ds fs zs t:=by
 refine ⟨setRow_heap _ _ _ _ _ _ h.box,fun j hj=>?_,(setRow_other _ _ _ _ (by omega)).trans h.out,below_setRow h.low (Nat.le_refl _) _,by have:=h.size;simpa using this⟩
 rw [← h.row j hj]
 simp only [World.cell?]
 rw [setRow_other _ _ _ _ (by omega)]
theorem BoxP.cell {w u:World} {cs fs zs:List Value} {t:TypeId} (h:BoxP w u cs fs zs t) {j:Nat} {v:Value} (hv:cs[j]?=some v):u.cell? ⟨w.heap.size,j,none⟩=some v:=by
 rw [cell_of_row u w.heap.size j _ _ _ h.box];simpa using hv
theorem BoxP.range {w u:World} {cs fs zs:List Value} {t:TypeId} (h:BoxP w u cs fs zs t):u.rangeAt w.heap.size 0 cs:=fun j v hv=>by rw [Nat.zero_add];exact h.cell hv
set_option maxRecDepth 100000 in
set_option maxHeartbeats 3200000 in
theorem params_r (f:FuncD) (fs:List Value) (d:ScD) (cs:List Value) (w:World) (lo B C N:Nat) (hC:C≤536870912) (hN:N≤536870912) (hB:B≤w.heap.size) (hlo:lo≤w.heap.size) (h:ScD.At w lo B C d cs) (hf:FuncD.At w B N f fs) :
 Calls Tryz.prog 41 #[.agg cs.toArray,.agg fs.toArray] w (ScW lo (C+f.params.length) (d.par f.params) w):=by
 obtain ⟨pa,pc,bs,gh⟩:=hf.has
 have HP:=Hd gh.atPar
 have f1:=gh.params
 have hpl:f.params.length≤N:=gh.hp
 have HS:=Hd (h.mono (B':=w.heap.size) (K':=C) hB (Nat.le_refl _))
 have hlen:=h.len
 have hsz:=Hd (show (Tryz.prog.info? 96).map (·.size)=some cs.length by rw [hlen];kernel_rfl)
 have B0:=Hd (BoxP.start w cs fs zero3 96 82)
 clear gh hf h hlen
 go_enter Tryz.func41,Tryz.ntmps41
 go_wp2_with fail
 go_simp
 go_loopw [5] (fun i wr=>∃ k:Nat,k≤f.params.length∧i=.int .i64 k∧Hid (∃ d' es,d'=d.par (f.params.take k)∧BoxP w wr es fs zero3 96∧ScD.At wr lo wr.heap.size (C+k) d' es)) (fun i _=>f.params.length-(intOf i).toNat)
 case atStart =>
  refine ⟨0,by omega,rfl,Hd ⟨d,cs,by simp [ScD.par,pvars,pgs],B0.out,?_⟩⟩
  exact (HS.out.keep (Kept.of_below B0.out.low)).mono (K':=C+0) (show w.heap.size≤_ from B0.out.low.size) (by omega)
 case round =>
  obtain ⟨w1,rfl⟩:∃ w1,w1=wr:=⟨wr,rfl⟩
  obtain ⟨k,hk,rfl,HR⟩:=hrel
  obtain ⟨d1,es,hv1,hb1,hs1⟩:=HR.out
  have HV1:=Hd hv1
  have B1:=Hd hb1
  have S1:=Hd hs1
  have hesz:=Hd (show (Tryz.prog.info? 96).map (·.size)=some es.length by rw [hs1.len];kernel_rfl)
  have e1:=hb1.row.get0 f1
  clear hb1 hs1 HR hv1
  by_cases hlt:k<f.params.length
  ·obtain ⟨b,p,rfl,hb,hget⟩:=HP.out.get (by intro h;simp [h] at hlt)
   obtain ⟨w2,hw2⟩:∃ w2,w2=w1.drew:=⟨_,rfl⟩
   have D2:=Hd (show Below w1.heap.size w1 w2 by rw [hw2];exact ⟨rfl,rfl,rfl,Nat.le_refl _,fun _ _=>rfl⟩)
   have B2:=Hd (B1.out.below D2.out)
   have S2:=Hd ((S1.out.keep (Kept.of_below D2.out)).mono D2.out.size (Nat.le_refl _))
   have HW2:=Hd hw2
   have q1:=(hget k hlt).2.below (B1.out.low.mono hB) hb 1 (by show 1<2;omega)
   have q0:=((hget k hlt).2.below (B2.out.low.mono hB) hb).get0' rfl
   have e2:=B2.out.row.get0 f1
   have q1':w1.cell? ⟨b,p+k * 2+1,none⟩=some (.bool f.params[k].value):=q1
   clear hw2 hget q1
   cases hval:f.params[k].value
   all_goals
    rw [hval] at q1'
    have HNV:=Hd (d.par_step hlt)
    have HVAL:=Hd hval
    clear hval
    go_wp2_with fail
    refine wp_region_still_tail 7 (by kernel_rfl) (by kernel_rfl) ?_
    simp only [List.take_succ_cons,List.take_zero,List.drop_succ_cons,List.drop_zero]
    change wpStill _ _ w1.drew (fun a'=>wpList _ _ _ _ a' w1.drew) _ _
    rw [← HW2.out]
    refine wpStill_load rfl 96 _ rfl w.heap.size 0 rfl es _ B2.out.range Tryz.underlying96 rfl hesz.out ?_
    simp only [Act.put]
    repeat still_step
    refine wpStill_nil ?_
    go_wp2_with fail
    first
     | refine ((variable_r d1 f.params[k].name es w2 lo w2.heap.size (C+k) (by omega) (Nat.le_refl _) (Nat.le_trans hlo B2.out.low.size) S2.out).mono fun e w' h=>h.v (Nat.le_refl _)).mono ?_
     | refine ((function_r d1 f.params[k].name 0 es w2 lo w2.heap.size (C+k) (by omega) (Nat.le_refl _) (Nat.le_trans hlo B2.out.low.size) S2.out).mono fun e w' h=>h.v (Nat.le_refl _)).mono ?_
    rintro e w3 ⟨d3,es3,hv3,rfl,hs3,hb3⟩
    have B3:=Hd (B2.out.below hb3)
    have S3:=Hd hs3
    have hes3:=hs3.len
    have hez3:=Hd (show (Tryz.prog.info? 96).map (·.size)=some es3.toArray.size by rw [List.size_toArray,hes3];kernel_rfl)
    have hsame:=Hd (show es.toArray.size=es3.toArray.size by rw [List.size_toArray,List.size_toArray,hes3];exact S2.out.len)
    have HV3:=Hd (show d3=d.par (f.params.take (k+1)) by
     rw [hv3,HNV.out,← HV1.out]
     unfold ScD.push
     rw [HVAL.out]
     rfl)
    clear hs3 hb3 hes3 hv3
    go_wp2_with (refine wpList_store_row rfl 96 _ _ rfl w.heap.size es3.toArray rfl rfl 96 _ B3.out.box hez3.out hsame.out S3.out.ones ?_)
    have HN:=Hd (show ∃ d' es',d'=d.par (f.params.take (k+1))∧BoxP w (w3.setRow w.heap.size es3.toArray) es' fs zero3 96∧ScD.At (w3.setRow w.heap.size es3.toArray) lo (w3.setRow w.heap.size es3.toArray).heap.size (C+(k+1)) d' es' by
     obtain ⟨x,n,c',h0⟩:=S2.out.cell0
     have h4:=S3.out.setRow (B3.out.cell h0) es3.toArray
     exact ⟨d3,es3,HV3.out,B3.out.set es3,h4.mono (by simp) (by omega)⟩)
    go_roundw
    case rel=>exact ⟨k+1,by omega,by go_num,HN⟩
    case measure=>simp [intOf];omega
  ·obtain rfl:k=f.params.length:=by omega
   have hesz2:=Hd (show (Tryz.prog.info? 96).map (·.size)=some es.toArray.size by rw [List.size_toArray];exact hesz.out)
   have hsame:=Hd (show zero3.toArray.size=es.toArray.size by rw [List.size_toArray,List.size_toArray,S1.out.len];rfl)
   go_wp2_with (first
    | (refine wpList_load_mid rfl 96 _ rfl w.heap.size 0 rfl es _ B1.out.range Tryz.underlying96 rfl hesz.out ?_)
    | (refine wpList_store_row rfl 96 _ _ rfl (w.heap.size+1+1) es.toArray rfl rfl 96 _ B1.out.out hesz2.out hsame.out S1.out.ones ?_))
   have HOUT:=setRow_heap w1 (w.heap.size+2) _ es.toArray _ _ B1.out.out
   refine bodyPost_ret (results_cell_row rfl _ _ (w.heap.size+1+1) 96 _ (0,0) _ rfl HOUT Tryz.underlying96 rfl hesz2.out) rfl ?_
   have h4:=S1.out.setRow (q:=w.heap.size+2) (x:=none) (n:=0) (c:=0) (by rw [cell_of_row w1 (w.heap.size+2) 0 _ _ _ B1.out.out];rfl) es.toArray
   have hv:=HV1.out
   rw [List.take_length] at hv
   exact ⟨d1,es,hv,rfl,h4.mono (by simp) (Nat.le_refl _),below_setRow B1.out.low (by omega) _⟩
end Go.Proofs.YticpebgjbfanpaaGreatDoor
