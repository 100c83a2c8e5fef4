/- The program's names of modules: module.imported, module.names. -/
import Derived.Test.YtiefeajappjnbaaGreatDoorGA
import Derived.Test.YtiefeajappjnbaaGreatDoorMos38
import Derived.Test.YtiefeajappjnbaaGreatDoorMck36
import Derived.Test.YtiefeajappjnbaaGreatDoorMD
namespace Go.Proofs.YtiefeajappjnbaaGreatDoor
open Go.RowKit Go.Maps
def ixOf (L:List (List UInt8)) (s:List UInt8):Option Nat:=L.findIdx? (·==s)
theorem ixOf_snoc (L:List (List UInt8)) (x s:List UInt8):ixOf (L++[x]) s=(ixOf L s).or (if x=s then some L.length else none):=by
 unfold ixOf
 rw [List.findIdx?_append]
 congr 1
 by_cases h:x=s
 ·subst h;simp
 ·simp [h]
def IdxAt (w:World) (b n:Nat) (L:List (List UInt8)):Prop :=
 ∃ D:DataW Unit,w.ownsMap Tryz.prog 9 (plainElem Tryz.prog 3) b n D∧IsMap D∧(∀ s,Maps.has D (.string s)=(ixOf L s).isSome)∧∀ s i,ixOf L s=some i→D.atKey (.string s) (.lit (.int .i64 0))=.lit (.int .i64 (i:Int))
theorem IdxAt.made (w:World):IdxAt (w.alloc (.map #[] 0)) w.heap.size 0 [] :=
 ⟨.map [],World.ownsMap_made _ _ _ _,isMap_empty,fun s=>rfl,fun s i h=>by cases h⟩
theorem IdxAt.lt {w:World} {b n:Nat} {L:List (List UInt8)} (h:IdxAt w b n L):b<w.heap.size:=by
 obtain ⟨D,h1,_⟩:=h
 exact h1.lt
theorem IdxAt.mono {w:World} {b n n':Nat} {L:List (List UInt8)} (h:IdxAt w b n L) (hn:n≤n'):IdxAt w b n' L:=by
 obtain ⟨D,h1,r⟩:=h
 exact ⟨D,h1.mono hn,r⟩
theorem IdxAt.block {w w':World} {b n:Nat} {L:List (List UInt8)} (h:IdxAt w b n L) (hb:w'.heap[b]?=w.heap[b]?):IdxAt w' b n L:=by
 obtain ⟨D,⟨es,clock,hh,r⟩,h2⟩:=h
 exact ⟨D,⟨es,clock,hb.trans hh,r⟩,h2⟩
theorem IdxAt.below {w w':World} {b n B:Nat} {L:List (List UInt8)} (h:IdxAt w b n L) (hb:Below B w w') (hlt:b<B):IdxAt w' b n L:=h.block (hb.block b hlt)
theorem IdxAt.later {w w':World} {b n:Nat} {L:List (List UInt8)} (h:IdxAt w b n L) (hb:Below w.heap.size w w'):IdxAt w' b n L:=h.below hb h.lt
theorem zeroInt (w:World):(zeroValue 3).run Tryz.prog w=.ok (.int .i64 0) w:=Tryz.zeroValue3 w
theorem wpList_look_idx {w:World} {ops:Array Oper} {rest:List Oper} {o:Oper} {a:Act} {Q:Exit→Act→World→Prop} (hg:o.guard=none) (m x:Operand) (t:TypeId) (hop:o.op=Op.lookup t m x true)
 (ht:Tryz.prog.underlying t=some (.map 9 3)) {b n:Nat} {L:List (List UInt8)}
 (hm:a.eval m=.map (some b)) (h:IdxAt w b n L) (s:ByteArray) (hx:a.eval x=.string s) (hs:s.size≤maxLen) (ok:Bool) (hok:(ixOf L s.data.toList).isSome=ok)
 (hk:∀ c:Int,(∀ i:Nat,ixOf L s.data.toList=some i→c=i)→wpList Tryz.prog ops Q rest (a.put o.dst (.tuple #[.int .i64 c,.bool ok])) w):wpList Tryz.prog ops Q (o::rest) a w:=by
 obtain ⟨D,h1,h2,h3,h4⟩:=h
 refine wpList_lookup_own_ok_int w hg m x t hop 9 3 .i64 (string_keyed Tryz.underlying9) ht Tryz.underlying3 (zeroInt w) b n D hm h1 _ (.string s.data.toList) hx (keyOf_str Tryz.underlying9 hs) (fun c hat hwc=>?_)
 rw [h3,hok]
 refine hk c (fun i hi=>?_)
 rw [h4 _ i hi] at hat
 simpa using hat.symm
theorem wpList_put_idx {w:World} {ops:Array Oper} {rest:List Oper} {o:Oper} {a:Act} {Q:Exit→Act→World→Prop} (hg:o.guard=none) (m x v:Operand) (t:TypeId) (hop:o.op=Op.mapUpdate t m x v)
 (ht:Tryz.prog.underlying t=some (.map 9 3)) {b n:Nat} {L:List (List UInt8)}
 (hm:a.eval m=.map (some b)) (h:IdxAt w b n L) (hn:n<maxLen) (s:ByteArray) (hx:a.eval x=.string s) (hno:(ixOf L s.data.toList).isSome=false) (hL:L.length≤65536) (hv:a.eval v=.int .i64 (L.length:Int)) (hs:s.size≤maxLen)
 (hk:∀ w',IdxAt w' b (n+1) (L++[s.data.toList])→w.grownBy w' (some b)→wpList Tryz.prog ops Q rest (a.put o.dst undef) w'):wpList Tryz.prog ops Q (o::rest) a w:=by
 obtain ⟨D,h1,h2,h3,h4⟩:=h
 have hno':ixOf L s.data.toList=none:=by simpa using hno
 have hwf:(Lit.int .i64 (L.length:Int)).wf=true:=by
  simp only [Lit.wf,Bool.and_eq_true,decide_eq_true_eq]
  constructor
  ·exact Int.le_trans (by decide:IntKind.i64.min≤0) (by omega)
  ·exact Int.le_trans (show (L.length:Int)≤65536 by omega) (by decide)
 refine wpList_mapUpdate_own w hg m x v t hop 9 3 (string_keyed Tryz.underlying9) ht _ b n D hm h1 hn _ _ (.string s.data.toList) hx hv (keyOf_str Tryz.underlying9 hs) _ [] (plainElem_int Tryz.underlying3 hwf) (fun w' r1 r2=>hk w' ⟨_,r1,h2.put _ _,fun q=>?_,fun q i hi=>?_⟩ r2)
 ·rw [ixOf_snoc]
  by_cases hq:q=s.data.toList
  ·subst hq
   rw [has_put_same h2 (isKeyLit_string _),hno']
   simp
  ·rw [has_put_other (by simpa using hq),h3,if_neg (fun e=>hq e.symm)]
   simp
 ·rw [ixOf_snoc] at hi
  by_cases hq:q=s.data.toList
  ·subst hq
   rw [hno'] at hi
   simp at hi
   rw [atKey_put_same h2 (isKeyLit_string _),hi]
  ·rw [if_neg (fun e=>hq e.symm)] at hi
   rw [atKey_put_other (by simpa using hq)]
   exact h4 q i (by simpa using hi)
theorem ixOf_mods (l:List ModD) (s:ByteArray):ixOf (strs (nmsM l)) s.data.toList=fnd l s:=by
 unfold ixOf strs nmsM fnd
 rw [List.map_map,List.findIdx?_map]
 congr 1
 funext f
 show (f.name.data.toList==s.data.toList)=(f.name.toList==s.toList)
 rw [ByteArray.toList_eq,ByteArray.toList_eq]
theorem ixOf_isSome (L:List (List UInt8)) (s:List UInt8):(ixOf L s).isSome=decide (s∈L):=by
 unfold ixOf
 rw [List.findIdx?_isSome,Bool.eq_iff_iff,List.any_eq_true,decide_eq_true_eq]
 constructor
 ·rintro ⟨x,hx,he⟩
  rw [beq_iff_eq] at he
  rwa [← he]
 ·exact fun h=>⟨s,h,by simp⟩
theorem ix_take {l:List ModD} {i:Nat} (h:i<l.length):(ixOf (strs ((nmsM l).take i)) l[i].name.data.toList).isSome=decide (fndI l l[i].name<i):=by rw [ixOf_isSome,mem_fnd h]
theorem strs_len {l:List ModD} {k:Nat} (h:k≤l.length):(strs ((nmsM l).take k)).length=k:=by unfold strs;rw [List.length_map,List.length_take,nmsM_len];omega
theorem wpList_at_idx {w:World} {ops:Array Oper} {rest:List Oper} {o:Oper} {a:Act} {Q:Exit→Act→World→Prop} (hg:o.guard=none) (m x:Operand) (t:TypeId) (hop:o.op=Op.lookup t m x false)
 (ht:Tryz.prog.underlying t=some (.map 9 3)) {b n:Nat} {L:List (List UInt8)}
 (hm:a.eval m=.map (some b)) (h:IdxAt w b n L) (s:ByteArray) (hx:a.eval x=.string s) (hs:s.size≤maxLen) (i:Nat) (hi:ixOf L s.data.toList=some i)
 (hk:wpList Tryz.prog ops Q rest (a.put o.dst (.int .i64 (i:Int))) w):wpList Tryz.prog ops Q (o::rest) a w:=by
 obtain ⟨D,h1,h2,h3,h4⟩:=h
 refine wpList_lookup_own_int w hg m x t hop 9 3 .i64 (string_keyed Tryz.underlying9) ht Tryz.underlying3 (zeroInt w) b n D hm h1 _ (.string s.data.toList) hx (keyOf_str Tryz.underlying9 hs) (fun c hat hwc=>?_)
 rw [h4 _ i hi] at hat
 have e:(i:Int)=c:=by simpa using hat
 rw [← e]
 exact hk
def CellsV (w:World) (v:Value) (n:Nat) (cs:List Value):Prop:=∃ a c,v=.slice a n c∧n=cs.length∧(n≠0→∃ g,a=some ⟨g,0,none⟩∧g<w.heap.size∧CellsAt w g 0 cs)
theorem cellsV_of_own {w:World} {lo n:Nat} {t:TypeId} {v:Value} {xs:List Value} (h:w.ownsRow lo t 1 v n xs):CellsV w v n xs:=by
 have hl:=h.1
 rcases h.2 with ⟨rfl,h0⟩ | ⟨g,cap,cur,rfl,h1,h2,h3,h4,_⟩
 ·exact ⟨none,0,by rw [h0],by omega,fun h=>absurd h0 h⟩
 ·refine ⟨some ⟨g,0,none⟩,cap,rfl,by omega,fun _=>⟨g,rfl,(Array.getElem?_eq_some_iff.1 h2).1,fun j hj=>?_⟩⟩
  have:=h.cells (g:=g) rfl j _ (List.getElem?_eq_getElem hj)
  rw [addr_add'] at this
  rw [this,List.getElem?_eq_getElem hj]
theorem CellsV.below {w w':World} {n:Nat} {v:Value} {cs:List Value} (h:CellsV w v n cs) (hb:Below w.heap.size w w'):CellsV w' v n cs:=by
 obtain ⟨a,c,h1,h2,h3⟩:=h
 refine ⟨a,c,h1,h2,fun hn=>?_⟩
 obtain ⟨g,e,hg,hc⟩:=h3 hn
 exact ⟨g,e,Nat.lt_of_lt_of_le hg hb.size,hc.below hb hg⟩
theorem ModD.At.one {w:World} {B N:Nat} {m:ModD} {cs:List Value} (h:ModD.At w B N m cs):∀ v∈cs,v.oneCell'=true:=by
 obtain ⟨ia,fa,ic,fc,es,h⟩:=h
 rw [h.cs]
 intro v hv
 simp only [List.mem_cons] at hv
 rcases hv with rfl | rfl | rfl | hv
 ·rfl
 ·rfl
 ·rfl
 ·exact h.atMain.one v hv
theorem ModD.At.name0 {w:World} {B N:Nat} {m:ModD} {cs:List Value} (h:ModD.At w B N m cs):cs[0]?=some (.string m.name):=by
 obtain ⟨ia,fa,ic,fc,es,h⟩:=h
 rw [h.cs];rfl
theorem ModD.At.nameSize {w:World} {B N:Nat} {m:ModD} {cs:List Value} (h:ModD.At w B N m cs):m.name.size≤N:=by
 obtain ⟨ia,fa,ic,fc,es,h⟩:=h
 exact h.hn
theorem ModD.At.impLen {w:World} {B N:Nat} {m:ModD} {cs:List Value} (h:ModD.At w B N m cs):m.imps.length≤N:=by
 obtain ⟨ia,fa,ic,fc,es,h⟩:=h
 exact h.hi
theorem ModD.At.impSize {w:World} {B N:Nat} {m:ModD} {cs:List Value} (h:ModD.At w B N m cs):∀ q (hq:q<m.imps.length),m.imps[q].1.size≤N:=by
 obtain ⟨ia,fa,ic,fc,es,h⟩:=h
 intro q hq
 obtain ⟨b,o,_,_,hget⟩:=h.atImp.get (by intro e;simp [e] at hq)
 exact (hget q hq).1.1
def imsM (m:ModD):List ByteArray:=m.imps.map (·.1)
def ImpR (ims:List ByteArray) (w:World) (e:Ending) (w':World):Prop:=∃ v,e=.returned v∧CellsV w' v ims.length (ims.map .string)∧Below w.heap.size w w'
theorem imsM_step {l:List (ByteArray×ByteArray)} {k:Nat} (h:k<l.length):(l.take (k+1)).map (·.1)=(l.take k).map (·.1)++[l[k].1]:=by
 rw [List.take_succ_eq_append_getElem h,List.map_append]
 rfl
set_option maxRecDepth 100000 in
set_option maxHeartbeats 6400000 in
theorem imported_p (m:ModD) (w:World) (B N:Nat) (cs:List Value) (hN:N≤1048576) (hB:B≤w.heap.size) (hm:ModD.At w B N m cs):Calls Tryz.prog 35 #[.agg cs.toArray] w (ImpR (imsM m) w):=by
 obtain ⟨ia,fa,ic,fc,es,hh⟩:=hm
 obtain ⟨l,hl⟩:∃ l,m.imps=l:=⟨_,rfl⟩
 have HL:=Hd hl
 have HIM:=Hd (show imsM m=l.map (·.1) by unfold imsM;rw [hl])
 have HC1:=Hd (show cs[1]?=some (.slice ia l.length ic) by rw [hh.cs,← hl];rfl)
 have HIA:=Hd (show ImpsAt w B N l ia by rw [← hl];exact hh.atImp)
 have hll:l.length≤1048576:=by rw [← hl];exact Nat.le_trans hh.hi hN
 have HLL:=Hd hll
 have R0:=Hd (RowT.new w 44 cs)
 have H0:=Hd (belowBox w (.cells cs.toArray 44))
 have e1:=R0.out.cell HC1.out
 obtain ⟨i0,hi,hz0,hz1,hz2⟩:=info_parts infoStr
 have HI:=Hd hi
 have HZ0:=Hd hz0
 have HZ1:=Hd hz1
 have HZ2:=Hd hz2
 clear hi hz0 hz1 hz2 hh hl
 go_enter Tryz.func35,Tryz.ntmps35
 go_wp2_with fail
 go_simp
 go_loopw [3,9] (fun v i wr=>∃ k:Nat,k≤l.length∧i=.int .i64 k∧Hid (wr.ownsRow w.heap.size 9 1 v ((l.take k).map (·.1)).length (((l.take k).map (·.1)).map .string))∧Hid (Below w.heap.size w wr)) (fun _ i _=>l.length-(intOf i).toNat)
 case atStart=>exact ⟨0,by omega,rfl,Hd (World.ownsRow_nil _ _ _ _),H0⟩
 case round =>
  clear e1 R0
  obtain ⟨w1,rfl⟩:∃ w1,w1=wr:=⟨wr,rfl⟩
  obtain ⟨k,hk,rfl,HO,HBr⟩:=hrel
  by_cases hlt:k<l.length
  case neg =>
   obtain rfl:k=l.length:=by omega
   have HR:=cellsV_of_own HO.out
   rw [List.take_length,← HIM.out] at HR
   replace HR:=Hd HR
   go_wp2_with fail
   go_ret
   exact ⟨_,rfl,HR.out,HBr.out⟩
  obtain ⟨b,o,rfl,hb,hget⟩:=HIA.out.get (by intro h;rw [h] at hlt;simp at hlt)
  obtain ⟨⟨z1,z2⟩,g1⟩:=hget k hlt
  have HSTEP:=Hd (imsM_step hlt)
  have hlen:=Hd (show ((l.take k).map (·.1)).length=k by rw [List.length_map,List.length_take];omega)
  obtain ⟨p,hp⟩:∃ p,l[k]=p:=⟨_,rfl⟩
  rw [hp] at g1 z1 z2 HSTEP
  obtain ⟨i1,i2⟩:=p
  have HG:=Hd (g1.below (HBr.out.mono hB) hb)
  have hl1:=Hd (show (Tryz.prog.info? 78).map (·.size)=some (impC (i1,i2)).length by kernel_rfl)
  have hl2:=Hd (show (Tryz.prog.info? 78).map (·.size)=some (impC (i1,i2)).toArray.size by kernel_rfl)
  have h2:=Hd (show 2=(impC (i1,i2)).toArray.size by rfl)
  have hone:=Hd (show (impC (i1,i2)).toArray.all (·.oneCell')=true from Go.all_oneCell_toArray (by intro u hu;simp [impC] at hu;rcases hu with rfl | rfl<;>rfl))
  have HB1:=Hd (show Below w.heap.size w (w1.alloc (.cells (impC (i1,i2)).toArray 78)) from belowThen HBr.out (belowBox w1 _))
  have HO1:=Hd (HO.out.alloc (.cells (impC (i1,i2)).toArray 78))
  have HBX:=Hd (RowT.new w1 78 (impC (i1,i2)))
  have HS1:=Hd (World.size_alloc w1 (.cells (impC (i1,i2)).toArray 78))
  have d0:=HBX.out.cell (j:=0) (v:=.string i1) rfl
  clear g1 hget hp z1 z2
  go_wp2_with (first
   | ((with_reducible show wpList _ _ _ (⟨some 12,_,_,_,_,_⟩::_) _ _);refine wpList_load_mid rfl 78 _ rfl b (o+k * 2) rfl (impC (i1,i2)) _ HG.out.range Tryz.underlying78 rfl hl1.out ?_)
   | ((with_reducible show wpList _ _ _ (⟨none,.store 78 (.tmp 5) (.tmp 12),_,_,_,_⟩::_) _ _);refine wpList_store_new rfl 78 _ _ rfl _ (impC (i1,i2)).toArray rfl rfl hl2.out h2.out hone.out ?_)
   | (at_builtin;refine wpList_append_own _ rfl _ _ 86 rfl w.heap.size 9 i0 (.string ⟨#[]⟩) 1 16 Tryz.underlying86 HI.out HZ0.out HZ1.out HZ2.out rfl (by decide) _ _ _ rfl (HO1.out.alloc _) ⟨(w1.alloc (.cells (impC (i1,i2)).toArray 78)).heap.size,0,none⟩ 1 1 [.string i1] (by rw [HS1.out];rfl) rfl (cell_one_new _ _ _) (by simp [Value.oneCell']) (by have:=hlen.out;have:=HLL.out;unfold maxLen;omega) (by have:=hlen.out;have:=HLL.out;omega) (by have:=HB1.out.size;rw [World.size_alloc];omega) ?_;intro v' w5 hown' hg5 hnil5;go_frame))
  have HB5:=Hd (show Below w.heap.size w w5 from Below.grown (HB1.out.alloc HB1.out.size _) hg5 (by have:=HB1.out.size;rw [World.size_alloc];omega) (fun j hj=>(HO1.out.lt j hj).1))
  go_roundw
  case rel=>exact ⟨k+1,by omega,by go_num,Hd (by rw [HSTEP.out,List.length_append,List.map_append];simpa using hown'),HB5⟩
  case measure=>simp [intOf];omega
def NmsR (l:List ModD) (w:World) (e:Ending) (w':World):Prop:=∃ v,e=.returned (.tuple #[v,.int .i64 (nmsE l)])∧Below w.heap.size w w'∧(nmsE l=0→∃ b,v=.map (some b)∧w.heap.size≤b∧IdxAt w' b l.length (strs (nmsM l)))
theorem nms_err {l:List ModD} {z:Int} {w w':World} (h:nmsE l=z) (hz:z≠0) (hb:Below w.heap.size w w'):NmsR l w (.returned (.tuple #[.map none,.int .i64 z])) w':=by subst h;exact ⟨_,rfl,hb,fun h=>absurd h hz⟩
theorem nms_ok {l:List ModD} {b:Nat} {w w':World} (h:nmsE l=0) (hb:Below w.heap.size w w') (hl:w.heap.size≤b) (hx:IdxAt w' b l.length (strs (nmsM l))):NmsR l w (.returned (.tuple #[.map (some b),.int .i64 0])) w':=⟨_,by rw [h],hb,fun _=>⟨_,rfl,hl,hx⟩⟩
theorem dup_cut {l:List ModD} {i:Nat} {nm:ByteArray} {ex:Bool} (h:(decide (fndI l nm<i))=ex) {pr:Bool} (h2:(nm.toList==[112,114,101,108,117,100,101])=pr):dupB l i nm=(pr || ex):=by unfold dupB;rw [h,h2]
set_option maxRecDepth 100000 in
set_option maxHeartbeats 12800000 in
theorem names_p (l:List ModD) (a:Option Addr) (c:Nat) (w:World) (B N:Nat) (hN:N≤1048576) (hB:B≤w.heap.size) (hl:l.length≤16) (hA:ModsAt w B N l a):Calls Tryz.prog 34 #[.slice a l.length c] w (NmsR l w):=by
 have HA:=Hd hA
 clear hA
 have hmm:=@run_makeMap Tryz.prog
 go_enter Tryz.func34,Tryz.ntmps34
 go_wp2_with fail
 clear hmm
 go_simp
 go_loopw [18] (fun i wr=>∃ k:Nat,k≤l.length∧i=.int .i64 k∧Hid (∀ j (hj:j<l.length),j<k→dupB l j l[j].name=false)∧Hid (Below w.heap.size w wr)∧Hid (IdxAt wr w.heap.size k (strs ((nmsM l).take k)))∧Hid (w.heap.size<wr.heap.size)) (fun i _=>l.length-(intOf i).toNat)
 case atStart=>exact ⟨0,by omega,rfl,Hd (fun j _ hj=>absurd hj (by omega)),Hd (belowBox w _),Hd (IdxAt.made w),Hd (by rw [World.size_alloc];omega)⟩
 case round =>
  obtain ⟨w1,rfl⟩:∃ w1,w1=wr:=⟨wr,rfl⟩
  obtain ⟨k,hk,rfl,HND,HBr,HX,HSZ⟩:=hrel
  by_cases hlt:k<l.length
  case neg =>
   obtain rfl:k=l.length:=by omega
   have HDN:=Hd (show ∀ i (hi:i<l.length),dupB l i l[i].name=false from fun i hi=>HND.out i hi hi)
   have HX2:=Hd (show IdxAt w1 w.heap.size l.length (strs (nmsM l)) by
    have:=HX.out
    rwa [show (nmsM l).take l.length=nmsM l from List.take_of_length_le (by rw [nmsM_len];exact Nat.le_refl _)] at this)
   go_wp2_with fail
   go_simp
   go_loopw [43] (fun i wr=>∃ k:Nat,k≤l.length∧i=.int .i64 k∧Hid (∀ j (hj:j<l.length),j<k→∀ q (hq:q<l[j].imps.length),(fnd l l[j].imps[q].1).isSome=true)∧Hid (Below w.heap.size w wr)∧Hid (IdxAt wr w.heap.size l.length (strs (nmsM l)))∧Hid (w.heap.size<wr.heap.size)) (fun i _=>l.length-(intOf i).toNat)
   case atStart=>exact ⟨0,by omega,rfl,Hd (fun j _ hj=>absurd hj (by omega)),HBr,HX2,HSZ⟩
   case round =>
    clear HND HBr HX HX2 HSZ hlt
    obtain ⟨w1,rfl⟩:∃ w1,w1=wr:=⟨wr,rfl⟩
    obtain ⟨k,hk,rfl,HOK,HBr,HX,HSZ⟩:=hrel
    by_cases hlt:k<l.length
    case neg =>
     obtain rfl:k=l.length:=by omega
     have HZ:=Hd (nmsE_0 HDN.out (fun i hi q hq=>HOK.out i hi hi q hq))
     go_wp2_with fail
     go_ret2
     exact nms_ok HZ.out HBr.out (Nat.le_refl _) HX.out
    obtain ⟨b,o,rfl,hb,hget⟩:=HA.out.get (by intro h;rw [h] at hlt;simp at hlt)
    obtain ⟨cs,g1,g2⟩:=hget k hlt
    have HG:=Hd (g1.below (HBr.out.mono hB) hb)
    have hl1:=Hd (show (Tryz.prog.info? 44).map (·.size)=some cs.length by rw [g2.len];exact sizeMOD)
    have hl2:=Hd (show (Tryz.prog.info? 44).map (·.size)=some cs.toArray.size by rw [List.size_toArray,g2.len];exact sizeMOD)
    have h20:=Hd (show 20=cs.toArray.size by rw [List.size_toArray,g2.len])
    have hone:=Hd (show cs.toArray.all (·.oneCell')=true from Go.all_oneCell_toArray g2.one)
    have HM:=Hd (g2.below (HBr.out.mono hB))
    have HB1:=Hd (show Below w.heap.size w (w1.alloc (.cells cs.toArray 44)) from belowThen HBr.out (belowBox w1 _))
    have HX1:=Hd (HX.out.later (belowBox w1 (.cells cs.toArray 44)))
    have HBX:=Hd (RowT.new w1 44 cs)
    have HS1:=Hd (show w.heap.size<(w1.alloc (.cells cs.toArray 44)).heap.size by have:=HSZ.out;rw [World.size_alloc];omega)
    have HM1:=Hd (HM.out.below ((belowBox w1 (.cells cs.toArray 44)).mono (Nat.le_trans hB HBr.out.size)))
    obtain ⟨ims,hims⟩:∃ ims,imsM l[k]=ims:=⟨_,rfl⟩
    have HIM:=Hd hims
    have HIN:=Hd (show ims.length=l[k].imps.length by rw [← hims];exact List.length_map _)
    have HIG:=Hd (show ∀ q (h:q<ims.length) (h2:q<l[k].imps.length),ims[q]=l[k].imps[q].1 by
     subst hims
     intro q h h2
     exact List.getElem_map _)
    have HZS:=Hd (g2.impSize)
    have hzi:ims.length≤1048576:=by rw [HIN.out];exact Nat.le_trans g2.impLen hN
    clear g1 g2 hget hims
    go_wp2_with (first
     | ((with_reducible show wpList _ _ _ (⟨some 46,_,_,_,_,_⟩::_) _ _);refine wpList_load_mid rfl 44 _ rfl b (o+k * 20) rfl cs _ HG.out.range Tryz.underlying44 rfl hl1.out ?_)
     | ((with_reducible show wpList _ _ _ (⟨none,.store 44 (.tmp 10) (.tmp 46),_,_,_,_⟩::_) _ _);refine wpList_store_new rfl 44 _ _ rfl _ cs.toArray rfl rfl hl2.out h20.out hone.out ?_)
     | ((with_reducible show wpList _ _ _ (⟨some 47,_,_,_,_,_⟩::_) _ _);refine wpList_load_mid rfl 44 _ rfl w1.heap.size 0 rfl cs _ HBX.out.range Tryz.underlying44 rfl hl1.out ?_))
    refine (imported_p l[k] _ B N cs hN (Nat.le_trans hB HB1.out.size) HM1.out).mono ?_
    rw [HIM.out]
    rintro e w2 ⟨v,rfl,⟨ga,gc,rfl,hgn,hgc⟩,hb2⟩
    have HB2:=Hd (belowThen HB1.out hb2)
    have HX2:=Hd (HX1.out.later hb2)
    have HS2:=Hd (Nat.lt_of_lt_of_le HS1.out hb2.size)
    have HGC:=Hd hgc
    clear hgn hgc hb2
    go_wp2_with fail
    go_simp
    go_loopw [50] (fun i wr=>∃ q:Nat,q≤ims.length∧i=.int .i64 q∧Hid (∀ j (hj:j<l[k].imps.length),j<q→(fnd l l[k].imps[j].1).isSome=true)∧wr=w2) (fun i _=>ims.length-(intOf i).toNat)
    case atStart=>exact ⟨0,by omega,rfl,Hd (fun j _ hj=>absurd hj (by omega)),rfl⟩
    case round =>
     obtain ⟨q,hq,rfl,HF,rfl⟩:=hrel
     by_cases hqt:q<ims.length
     case neg =>
      have HF2:=Hd (show ∀ j (hj:j<l.length),j<k+1→∀ q (hq:q<l[j].imps.length),(fnd l l[j].imps[q].1).isSome=true from fun j hj hjk p hp=>by
       by_cases he:j=k
       ·subst he;exact HF.out p hp (by have:=HIN.out;omega)
       ·exact HOK.out j hj (by omega) p hp)
      go_wp2_with fail
      go_roundw
      case rel=>exact ⟨k+1,by omega,by go_num,HF2,HB2,HX2,HS2⟩
      case measure=>simp [intOf];omega
     obtain ⟨g,rfl,hg,hgc⟩:=HGC.out (by omega)
     have d0:=hgc.getA (j:=q) (v:=.string ims[q]) (by rw [List.getElem?_map,List.getElem?_eq_getElem hqt];rfl)
     rw [Nat.zero_add] at d0
     have HQ2:q<l[k].imps.length:=by rw [← HIN.out];exact hqt
     obtain ⟨s,hs⟩:∃ s,ims[q]=s:=⟨_,rfl⟩
     have HS:=Hd (show l[k].imps[q].1=s by rw [← hs];exact (HIG.out q hqt HQ2).symm)
     rw [hs] at d0
     have hsz:=Hd (show s.size≤maxLen by rw [← HS.out];have:=HZS.out q HQ2;unfold maxLen;omega)
     obtain ⟨ok,hok⟩:∃ ok,(fnd l s).isSome=ok:=⟨_,rfl⟩
     have HOK1:=Hd hok
     have HOK2:=Hd (show (ixOf (strs (nmsM l)) s.data.toList).isSome=ok by rw [ixOf_mods];exact hok)
     clear hs hok hg hgc
     cases ok
     ·have HZ:=Hd (show nmsE l=7 from nmsE_7 HDN.out hlt HQ2 (by rw [HS.out];have:=HOK1.out;revert this;cases fnd l s<;>simp))
      go_wp2_with (at_lookup;refine wpList_look_idx rfl _ _ 82 rfl Tryz.underlying82 rfl HX2.out s rfl hsz.out false HOK2.out ?_;intro c hc;clear hc)
      go_ret2
      exact nms_err HZ.out (by decide) HB2.out
     ·have HF2:=Hd (show ∀ j (hj:j<l[k].imps.length),j<q+1→(fnd l l[k].imps[j].1).isSome=true from fun j hj hjq=>by
       by_cases he:j=q
       ·subst he;rw [HS.out];exact HOK1.out
       ·exact HF.out j hj (by omega))
      go_wp2_with (at_lookup;refine wpList_look_idx rfl _ _ 82 rfl Tryz.underlying82 rfl HX2.out s rfl hsz.out true HOK2.out ?_;intro c hc;clear hc)
      go_roundw
      case rel=>exact ⟨q+1,by omega,by go_num,HF2,trivial⟩
      case measure=>simp [intOf];omega
  obtain ⟨b,o,rfl,hb,hget⟩:=HA.out.get (by intro h;rw [h] at hlt;simp at hlt)
  obtain ⟨cs,g1,g2⟩:=hget k hlt
  obtain ⟨nm,hnm⟩:∃ nm,l[k].name=nm:=⟨_,rfl⟩
  have HNM:=Hd hnm
  have HG:=Hd (g1.below (HBr.out.mono hB) hb)
  have hl1:=Hd (show (Tryz.prog.info? 44).map (·.size)=some cs.length by rw [g2.len];exact sizeMOD)
  have hl2:=Hd (show (Tryz.prog.info? 44).map (·.size)=some cs.toArray.size by rw [List.size_toArray,g2.len];exact sizeMOD)
  have h20:=Hd (show 20=cs.toArray.size by rw [List.size_toArray,g2.len])
  have hone:=Hd (show cs.toArray.all (·.oneCell')=true from Go.all_oneCell_toArray g2.one)
  have HB1:=Hd (show Below w.heap.size w (w1.alloc (.cells cs.toArray 44)) from belowThen HBr.out (belowBox w1 _))
  have HX1:=Hd (HX.out.later (belowBox w1 (.cells cs.toArray 44)))
  have HBX:=Hd (RowT.new w1 44 cs)
  have HS1:=Hd (show w.heap.size<(w1.alloc (.cells cs.toArray 44)).heap.size by have:=HSZ.out;rw [World.size_alloc];omega)
  have e0:=HBX.out.cell (j:=0) (v:=.string nm) (by rw [← hnm];exact g2.name0)
  have hnz:=Hd (show nm.size≤maxLen by rw [← hnm];have:=g2.nameSize;unfold maxLen;omega)
  obtain ⟨ex,hex⟩:∃ ex,decide (fndI l nm<k)=ex:=⟨_,rfl⟩
  have HEX:=Hd (show (ixOf (strs ((nmsM l).take k)) nm.data.toList).isSome=ex by rw [← hnm,ix_take hlt,hnm];exact hex)
  obtain ⟨pr,hpr⟩:∃ pr,(nm.toList==[112,114,101,108,117,100,101])=pr:=⟨_,rfl⟩
  have HD:=Hd (show dupB l k l[k].name=(pr || ex) by rw [hnm];exact dup_cut hex hpr)
  have HLN:=Hd (strs_len (l:=l) (k:=k) hk)
  have HSN:=Hd (show strs ((nmsM l).take (k+1))=strs ((nmsM l).take k)++[nm.data.toList] by rw [strs_next (by rw [nmsM_len];exact hlt),nmsM_get hlt,hnm])
  clear g1 g2 hget hnm hex
  cases ex
  case true =>
   have HZ:=Hd (show nmsE l=8 from nmsE_8 hlt (by rw [HD.out];cases pr<;>rfl))
   clear hpr
   go_wp2_with (first
    | ((with_reducible show wpList _ _ _ (⟨some 22,_,_,_,_,_⟩::_) _ _);refine wpList_load_mid rfl 44 _ rfl b (o+k * 20) rfl cs _ HG.out.range Tryz.underlying44 rfl hl1.out ?_)
    | ((with_reducible show wpList _ _ _ (⟨none,.store 44 (.tmp 6) (.tmp 22),_,_,_,_⟩::_) _ _);refine wpList_store_new rfl 44 _ _ rfl _ cs.toArray rfl rfl hl2.out h20.out hone.out ?_)
    | (at_lookup;refine wpList_look_idx rfl _ _ 82 rfl Tryz.underlying82 rfl HX1.out nm rfl hnz.out true HEX.out ?_;intro c hc;clear hc))
   go_ret2
   exact nms_err HZ.out (by decide) HB1.out
  cases pr
  case true =>
   have HZ:=Hd (show nmsE l=8 from nmsE_8 hlt (by rw [HD.out];rfl))
   go_wp2_with (first
    | ((with_reducible show wpList _ _ _ (⟨some 22,_,_,_,_,_⟩::_) _ _);refine wpList_load_mid rfl 44 _ rfl b (o+k * 20) rfl cs _ HG.out.range Tryz.underlying44 rfl hl1.out ?_)
    | ((with_reducible show wpList _ _ _ (⟨none,.store 44 (.tmp 6) (.tmp 22),_,_,_,_⟩::_) _ _);refine wpList_store_new rfl 44 _ _ rfl _ cs.toArray rfl rfl hl2.out h20.out hone.out ?_)
    | (at_lookup;refine wpList_look_idx rfl _ _ 82 rfl Tryz.underlying82 rfl HX1.out nm rfl hnz.out false HEX.out ?_;intro c hc;clear hc))
   go_ret2
   exact nms_err HZ.out (by decide) HB1.out
  have hvk:=Hd (show (Value.int .i64 (k:Int))=.int .i64 ((strs ((nmsM l).take k)).length:Int) by rw [HLN.out])
  go_wp2_with (first
   | ((with_reducible show wpList _ _ _ (⟨some 22,_,_,_,_,_⟩::_) _ _);refine wpList_load_mid rfl 44 _ rfl b (o+k * 20) rfl cs _ HG.out.range Tryz.underlying44 rfl hl1.out ?_)
   | ((with_reducible show wpList _ _ _ (⟨none,.store 44 (.tmp 6) (.tmp 22),_,_,_,_⟩::_) _ _);refine wpList_store_new rfl 44 _ _ rfl _ cs.toArray rfl rfl hl2.out h20.out hone.out ?_)
   | (at_lookup;refine wpList_look_idx rfl _ _ 82 rfl Tryz.underlying82 rfl HX1.out nm rfl hnz.out false HEX.out ?_;intro c hc;clear hc)
   | (at_mapUpdate;refine wpList_put_idx rfl _ _ _ 82 rfl Tryz.underlying82 rfl HX1.out (by unfold maxLen;omega) nm rfl HEX.out (by rw [HLN.out];omega) hvk.out hnz.out ?_))
  intro w3 hset hgrow
  have HX3:=Hd (show IdxAt w3 w.heap.size (k+1) (strs ((nmsM l).take (k+1))) by rw [HSN.out];exact hset)
  have HB3:=Hd (HB1.out.grown hgrow HB1.out.size (fun q hq=>by cases hq;omega))
  have HS3:=Hd (Nat.lt_of_lt_of_le HS1.out hgrow.size)
  have HND3:=Hd (show ∀ j (hj:j<l.length),j<k+1→dupB l j l[j].name=false from fun j hj hjk=>by
   by_cases he:j=k
   ·subst he;exact HD.out
   ·exact HND.out j hj (by omega))
  clear hset hgrow e0
  go_wp2
  go_roundw
  case rel=>exact ⟨k+1,by omega,by go_num,HND3,HB3,HX3,HS3⟩
  case measure=>simp [intOf];omega
end Go.Proofs.YtiefeajappjnbaaGreatDoor
