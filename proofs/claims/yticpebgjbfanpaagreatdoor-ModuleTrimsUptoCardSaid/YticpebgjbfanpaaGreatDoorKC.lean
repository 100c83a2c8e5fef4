/- The literal of a plan: what its operation builds. -/
import Derived.Test.YticpebgjbfanpaaGreatDoorHG
import Derived.Laws.Tables
import Derived.Test.YticpebgjbfanpaaGreatDoorGA
import Derived.Test.YticpebgjbfanpaaGreatDoorKB
import Derived.Test.YticpebgjbfanpaaGreatDoorGZ
import Derived.Test.YticpebgjbfanpaaGreatDoorCpx43
namespace Go.Proofs.YticpebgjbfanpaaGreatDoor
open Go.RowKit
theorem fold_zip_at (d:Nat):∀ (cs:List Value) (n:Nat) (Z:Array Value),List.foldl (fun (a:Array Value) (x:Value×Nat)=>a.setIfInBounds (d+x.2) x.1) Z (cs.zipIdx n)=List.foldl (fun (a:Array Value) (x:Value×Nat)=>a.setIfInBounds x.2 x.1) Z (cs.zipIdx (d+n))
 | [],_,_=>rfl
 | c::cs,n,Z=>by
   rw [List.zipIdx_cons,List.zipIdx_cons,List.foldl_cons,List.foldl_cons,fold_zip_at d cs (n+1)]
   rfl
theorem fold_mid:∀ (cs:List Value) (n:Nat) (Z:Array Value),n+cs.length≤Z.size→List.foldl (fun (a:Array Value) (x:Value×Nat)=>a.setIfInBounds x.2 x.1) Z (cs.zipIdx n)=(Z.toList.take n++cs++Z.toList.drop (n+cs.length)).toArray
 | [],n,Z,_=>by simp
 | c::cs,n,Z,h=>by
   rw [List.zipIdx_cons,List.foldl_cons,fold_mid cs (n+1) _ (by simp at h ⊢;omega)]
   have e:=list_seg_step Z.toList n c cs (by simp at h ⊢;omega)
   simp only [Array.toList_setIfInBounds]
   rw [e,List.length_cons]
theorem wp_built {P:Program} {o:Oper} {a:Act} {w:World} {K:Act→World→Prop} {Q:Exit→Act→World→Prop} (t:TypeId) (parts:Array (Nat×Operand)) (ho:o.op=.build t parts) (cells:Array Value)
 (hf:P.built t (parts.map fun (i,x)=>(i,a.eval x)).toList=some cells) (h:K (a.put o.dst (.agg cells)) w):o.wp P a w K Q :=
 wp_build t parts ho (by rw [hf];rfl) (by rw [hf];exact h)
end Go.Proofs.YticpebgjbfanpaaGreatDoor

/- datakitref38.Trim of a program: its error, or the program with the functions that are used. -/
namespace Go.Proofs.YticpebgjbfanpaaGreatDoor
open Go.RowKit
theorem funcs_own {a:World} {base N n:Nat} {t:TypeId} {s:Value} {xs:List Value} {l:List FuncD} (h:a.ownsRow base t 19 s n xs) (hn:l.length=n)
 (hc:∀ i (hi:i<l.length),FuncD.At a a.heap.size N l[i] ((xs.drop (i * 19)).take 19)):∃ ad cp,s=.slice ad l.length cp∧FuncsAt a a.heap.size N l ad:=by
 obtain ⟨ad,cp,rfl⟩:=own_slice h
 refine ⟨ad,cp,by rw [hn],?_⟩
 rcases h.2 with ⟨e,e2⟩ | ⟨g,cap,cur,e,_⟩
 ·have:l=[]:=List.length_eq_zero_iff.1 (by omega)
  subst this
  trivial
 ·simp only [Value.slice.injEq] at e
  obtain ⟨rfl,_,_⟩:=e
  obtain ⟨hg,ha⟩:=own_at h
  exact FuncsAt_of hg l 0 fun i hi=>⟨_,ha i (by omega),hc i hi⟩
theorem own_cell {w:World} {lo n g j:Nat} {t:TypeId} {sz:Nat} {v u:Value} {xs:List Value} (h:w.ownsRow lo t sz v n xs) (hne:∀ q,v.ownBlock=some q→q≠g):(w.setCell ⟨g,j,none⟩ u).ownsRow lo t sz v n xs:=by
 refine ⟨h.1,?_⟩
 rcases h.2 with hv | ⟨q,cap,cur,hv,hl,hc,hr⟩
 ·exact .inl hv
 ·exact .inr ⟨q,cap,cur,hv,hl,(heap_setCell_other _ _ _ _ (by have:=hne q (by rw [hv];rfl);simpa using this)).trans hc,hr⟩
def usedF (L:List ByteArray) (l:List FuncD):List FuncD:=l.filter fun f=>memB L f.name
theorem usedF_step (L:List ByteArray) (l:List FuncD) {k:Nat} (h:k<l.length):usedF L (l.take (k+1))=usedF L (l.take k)++(if memB L l[k].name=true then [l[k]] else []):=by
 unfold usedF
 rw [← List.take_append_getElem h,List.filter_append]
 congr 1
 cases hv:memB L l[k].name<;>simp [hv]
theorem usedF_le (L:List ByteArray) (l:List FuncD):(usedF L l).length≤l.length:=List.length_filter_le _ _
def PrgAt (w:World) (B N:Nat) (fl:List FuncD) (y:ExprD) (qs:List Value):Prop:=∃ (a:Option Addr) (c:Nat) (ys:List Value),qs=.slice a fl.length c::ys∧FuncsAt w B N fl a∧ExprD.At w B N y ys
def zeroPR:List Value:=.slice none 0 0::zeroEL
def TrmR (N:Nat) (l:List FuncD) (x:ExprD) (w:World) (e:Ending) (w':World):Prop:=∃ (qs:List Value) (k:Int) (fl:List FuncD) (y:ExprD),e=.returned (.tuple #[.agg qs.toArray,.int .i64 k])∧Hid (k=prgE l x)∧Hid (PrgAt w' w'.heap.size N fl y qs) ∧
 Hid ((k≠0→fl=[]∧y=zeroE)∧(k=0→∃ L,UsedL l x L∧fl=usedF L l∧y=x))∧Below w.heap.size w w'
def places39:Array (Nat×Nat):=#[(0,1),(1,17)]
theorem fill_1 (bcs:List Value) (hb:bcs.length=17):Instr.fill (places39[·]?) zeroPR.toArray [(1,.agg bcs.toArray)]=some (.slice none 0 0::bcs:List Value).toArray:=by
 have hs:zeroPR.toArray.size=18:=rfl
 have hc:(Value.agg bcs.toArray).cells=bcs.toArray:=rfl
 have hp:places39[1]?=some (1,17):=rfl
 rw [Instr.fill]
 simp only [hp,hc,hs,List.size_toArray,hb]
 rw [if_neg (by decide)]
 have h:List.foldl (fun (a:Array Value) (x:Value×Nat)=>a.setIfInBounds (1+x.2) x.1) zeroPR.toArray bcs.zipIdx=(.slice none 0 0::bcs:List Value).toArray:=by
  rw [fold_zip_at 1,fold_mid bcs 1 _ (by rw [hb];exact (by decide:1+17≤18)),hb]
  show ([Value.slice none 0 0]++bcs++[]).toArray=_
  simp
 rw [← Array.foldl_toList,Array.toList_zipIdx]
 exact congrArg (fun z=>Instr.fill (places39[·]?) z []) h
theorem built39 (bcs:List Value) (hb:bcs.length=17):Tryz.prog.built 36 [(1,.agg bcs.toArray)]=some (.slice none 0 0::bcs:List Value).toArray:=by
 have p1:(Tryz.prog.info? 36).bind (·.zero)=some (.agg zeroPR.toArray):=by kernel_rfl
 have p2:(Tryz.prog.fieldsOf 36).toList.mapM (fun f=>(Tryz.prog.info? f.type).map fun i=>(f.offset,i.size))=some [(0,1),(1,17)]:=by kernel_rfl
 have hu:Tryz.prog.underlying 36=some (.struct (Tryz.prog.fieldsOf 36)):=by kernel_rfl
 cases hi:Tryz.prog.info? 36 with
 | none=>rw [hi] at p1;cases p1
 | some it =>
   rw [hi] at p1
   have p1':it.zero=some (.agg zeroPR.toArray):=p1
   unfold Program.built
   rw [hi,hu]
   simp only [p1',p2]
   exact fill_1 bcs hb
theorem wpList_built {P:Program} {ops:Array Oper} {rest:List Oper} {o:Oper} {a:Act} {w:World} {Q:Exit→Act→World→Prop} (hgd:o.guard=none) (t:TypeId) (parts:Array (Nat×Operand)) (ho:o.op=.build t parts) (cells:Array Value)
 (hf:P.built t (parts.map fun (i,x)=>(i,a.eval x)).toList=some cells) (h:wpList P ops Q rest (a.put o.dst (.agg cells)) w):wpList P ops Q (o::rest) a w :=
 wpList_plain hgd fun _ hK=>wp_built t parts ho cells hf (hK _ _ h)
theorem sizePR:(Tryz.prog.info? 36).map (·.size)=some 18:=by kernel_rfl
theorem zeroPR_one:zeroPR.toArray.all (·.oneCell')=true:=by decide +kernel
set_option maxRecDepth 100000 in
set_option maxHeartbeats 12800000 in
theorem trim_r (l:List FuncD) (x:ExprD) (fa:Option Addr) (fc:Nat) (ms cs:List Value) (w:World) (B N:Nat) (hN:N≤1048576) (hB:B≤w.heap.size) (hT:TabAt w) (hln:l.length≤N) (hA:FuncsAt w B N l fa) (hx:ExprD.At w B N x ms) (hcs:cs=.slice fa l.length fc::ms) :
 Calls Tryz.prog 12 #[.agg cs.toArray] w (TrmR N l x w):=by
 have hml:ms.length=17:=hx.len
 have HML:=Hd hml
 have HMS:=Hd (show (cs.drop 1).take 17=ms by rw [hcs];exact List.take_of_length_le (show ms.length≤17 by omega))
 have hlm:=Hd (show (Tryz.prog.info? 34).map (·.size)=some ms.length by rw [hml];exact sizeE)
 have hlc:=Hd (show (Tryz.prog.info? 36).map (·.size)=some cs.length by rw [hcs,List.length_cons,hml];exact sizePR)
 have HC0:=Hd (show cs[0]?=some (.slice fa l.length fc) by rw [hcs];rfl)
 have HOM:=Hd hx.one
 have HCS:=Hd hcs
 have HA:=Hd hA
 have HX:=Hd hx
 have HT:=Hd hT
 have RG0:=(RowT.new w 36 cs).alloc (.cells #[.slice none 0 0,.int .i64 0,.string ⟨#[]⟩,.int .i64 0,.bool false,.bool false,.string ⟨#[]⟩,.int .i64 0,.int .i64 0,.int .i64 0,.int .i64 0,.int .i64 0,.string ⟨#[]⟩,.slice none 0 0,.slice none 0 0,.slice none 0 0,.slice none 0 0,.slice none 0 0] 36)
 have RZ0:=RowT.new (w.alloc (.cells cs.toArray 36)) 36 zeroPR
 rw [World.size_alloc] at RZ0
 obtain ⟨w1,hw1⟩:∃ w1,w1=(w.alloc (.cells cs.toArray 36)).alloc (.cells #[.slice none 0 0,.int .i64 0,.string ⟨#[]⟩,.int .i64 0,.bool false,.bool false,.string ⟨#[]⟩,.int .i64 0,.int .i64 0,.int .i64 0,.int .i64 0,.int .i64 0,.string ⟨#[]⟩,.slice none 0 0,.slice none 0 0,.slice none 0 0,.slice none 0 0,.slice none 0 0] 36):=⟨_,rfl⟩
 rw [← hw1] at RG0
 have RG:=Hd RG0
 have RZ:=Hd (show RowT 36 w1 (w.heap.size+1) zeroPR by rw [hw1];exact RZ0)
 have H1:=Hd (show Below w.heap.size w w1 by rw [hw1];exact belowThen (belowBox w _) (belowBox _ _))
 have HW:=Hd hw1
 clear hcs hx hA hT hml RG0 RZ0 hw1
 go_enter Tryz.func12,Tryz.ntmps12
 go_wp2_with ((with_reducible show wpList _ _ _ (⟨some 8,_,_,_,_,_⟩::_) _ _);refine wpList_load_mid rfl 36 _ rfl w.heap.size 0 rfl cs _ (by rw [← HW.out];exact RG.out.range) Tryz.underlying36 rfl hlc.out ?_)
 rw [← HW.out]
 refine (chk_r l x fa fc ms cs w1 B N hN (Nat.le_trans hB H1.out.size) (HT.out.below H1.out) (FuncsAt.below (H1.out.mono hB) _ HA.out) (HX.out.below (H1.out.mono hB)) HCS.out).mono ?_
 rintro e w2 ⟨rfl,hb2⟩
 have H2:=Hd (belowThen H1.out hb2)
 have RG2:=Hd (RG.out.then hb2)
 have RZ2:=Hd (RZ.out.then hb2)
 clear hb2 HW RG RZ H1
 by_cases h0:prgE l x=0
 case neg =>
  obtain ⟨k,hk⟩:∃ k,prgE l x=k:=⟨_,rfl⟩
  have HK:=Hd hk
  rw [hk] at h0 ⊢
  have n0:(k != 0)=true:=by simpa using h0
  have HN0:=Hd h0
  clear hk h0
  go_wp2_with ((with_reducible show wpList _ _ _ (⟨none,.store 36 (.tmp 2) (.tmp 12),_,_,_,_⟩::_) _ _);refine wpList_store_row rfl 36 _ _ rfl (w.heap.size+1) zeroPR.toArray rfl rfl 36 zeroPR.toArray RZ2.out sizePR rfl zeroPR_one ?_)
  refine bodyPost_ret (results_cell_row2 rfl _ _ (w.heap.size+1) 36 zeroPR.toArray (0,0) _ rfl (RZ2.out.setRow zeroPR) Tryz.underlying36 rfl sizePR) rfl ?_
  exact ⟨zeroPR,k,[],zeroE,rfl,Hd HK.out.symm,Hd ⟨none,0,zeroEL,rfl,trivial,zeroE_at _ _ _⟩,Hd ⟨fun _=>⟨rfl,rfl⟩,fun h=>absurd h HN0.out⟩,below_setRow H2.out (by omega) _⟩
 have H0:=Hd h0
 rw [h0]
 clear h0
 go_wp2_with ((with_reducible show wpList _ _ _ (⟨some 14,_,_,_,_,_⟩::_) _ _);refine wpList_load_mid rfl 36 _ rfl w.heap.size 0 rfl cs _ RG2.out.range Tryz.underlying36 rfl hlc.out ?_)
 refine (used_r l x fa fc ms cs w2 B N hN (Nat.le_trans hB H2.out.size) H0.out hln (FuncsAt.below (H2.out.mono hB) _ HA.out) (HX.out.below (H2.out.mono hB)) HCS.out).mono ?_
 rintro e w3 ⟨a,c,L,rfl,HUL,HNL,hb3⟩
 have H3:=Hd (belowThen H2.out hb3)
 have RG3:=Hd (RG2.out.then hb3)
 have RZ3:=Hd (RZ2.out.then hb3)
 have hp18:=Hd (show (Tryz.prog.info? 36).map (·.size)=some (.slice none 0 0::ms:List Value).toArray.size by rw [List.size_toArray,List.length_cons,HML.out];exact sizePR)
 have hz18:=Hd (show zeroPR.toArray.size=(.slice none 0 0::ms:List Value).toArray.size by show 18=_;rw [List.size_toArray,List.length_cons,HML.out])
 have ho18:=Hd (show (.slice none 0 0::ms:List Value).toArray.all (·.oneCell')=true from Go.all_oneCell_toArray (fun u hu=>by rcases List.mem_cons.1 hu with rfl | hu;rfl;exact HOM.out u hu))
 clear hb3 RG2 RZ2 H2
 go_wp2_with (first
  | ((with_reducible show wpList _ _ _ (⟨some 17,_,_,_,_,_⟩::_) _ _);refine wpList_load_mid rfl 34 _ rfl w.heap.size 1 rfl ms _ (RG3.out.cells.part HMS.out) Tryz.underlying34 rfl hlm.out ?_;refine wpList_built rfl 36 _ rfl (.slice none 0 0::ms:List Value).toArray (by rw [List.map_toArray];exact built39 ms HML.out) ?_)
  | ((with_reducible show wpList _ _ _ (⟨none,.store 36 (.tmp 6) (.tmp 18),_,_,_,_⟩::_) _ _);refine wpList_store_new rfl 36 _ _ rfl zeroPR.toArray (.slice none 0 0::ms:List Value).toArray rfl rfl hp18.out hz18.out ho18.out ?_))
 go_simp
 obtain ⟨w4,hw4⟩:∃ w4,w4=w3.alloc (.cells (.slice none 0 0::ms:List Value).toArray 36):=⟨_,rfl⟩
 have RO:=Hd (show RowT 36 w4 w3.heap.size (.slice none 0 0::ms) by rw [hw4];exact RowT.new w3 36 _)
 have HB4:=Hd (show Below w3.heap.size w3 w4 by rw [hw4];exact belowBox w3 _)
 rw [← hw4]
 have hwl:w.heap.size+1<w3.heap.size:=RZ3.out.lt
 clear hw4
 obtain ⟨z0,hz0s,hinfo⟩:=infoFN
 obtain ⟨i0,hi,hz0,hz1,hz2⟩:=info_parts hinfo
 have HI:=Hd hi
 have HZ0:=Hd hz0
 have HZ1:=Hd hz1
 have HZ2:=Hd hz2
 have HZS:=Hd hz0s
 clear hi hz0 hz1 hz2 hz0s hinfo
 go_loopw [7] (fun i wr=>∃ (k:Nat) (v:Value) (xs:List Value),k≤l.length∧i=.int .i64 k∧Hid (RowT 36 wr w3.heap.size (v::ms))∧Hid (wr.ownsRow (w3.heap.size+1) 82 19 v (usedF L (l.take k)).length xs) ∧
  Hid (∀ j (hj:j<(usedF L (l.take k)).length),FuncD.At w B N (usedF L (l.take k))[j] ((xs.drop (j * 19)).take 19))∧Hid (Below w3.heap.size w3 wr)) (fun i _=>l.length-(intOf i).toNat)
 case atStart=>exact ⟨0,.slice none 0 0,[],by omega,rfl,RO,Hd (World.ownsRow_nil _ _ _ _),Hd (fun j hj=>by simp [usedF] at hj),HB4⟩
 case round =>
  clear RO HB4
  obtain ⟨k,v,xs,hk,rfl,HR,HO,HF,HBr⟩:=hrel
  have p0:=(RG3.out.then HBr.out).cell HC0.out
  by_cases hlt:k<l.length
  case neg =>
   obtain rfl:k=l.length:=by omega
   have hlf2:=Hd (show (Tryz.prog.info? 36).map (·.size)=some (v::ms:List Value).length by rw [List.length_cons,HML.out];exact sizePR)
   have hlf3:=Hd (show (Tryz.prog.info? 36).map (·.size)=some (v::ms:List Value).toArray.size by rw [List.size_toArray];exact hlf2.out)
   have hlf4:=Hd (show zeroPR.toArray.size=(v::ms:List Value).toArray.size by show 18=_;rw [List.size_toArray,List.length_cons,HML.out])
   have hv1:v.oneCell'=true:=by obtain ⟨a',c',hv⟩:=own_slice HO.out;rw [hv];rfl
   have hlf5:=Hd (show (v::ms:List Value).toArray.all (·.oneCell')=true from Go.all_oneCell_toArray (fun u hu=>by rcases List.mem_cons.1 hu with rfl | hu;exact hv1;exact HOM.out u hu))
   have RZr:=Hd (RZ3.out.then HBr.out)
   clear hv1
   go_wp2_with (first
    | ((with_reducible show wpList _ _ _ (⟨some 44,_,_,_,_,_⟩::_) _ _);refine wpList_load_mid rfl 36 _ rfl w3.heap.size 0 rfl (v::ms) _ HR.out.range Tryz.underlying36 rfl hlf2.out ?_)
    | ((with_reducible show wpList _ _ _ (⟨none,.store 36 (.tmp 2) (.tmp 44),_,_,_,_⟩::_) _ _);refine wpList_store_row rfl 36 _ _ rfl (w.heap.size+1) (v::ms:List Value).toArray rfl rfl 36 zeroPR.toArray RZr.out hlf3.out hlf4.out hlf5.out ?_))
   refine bodyPost_ret (results_cell_row2 rfl _ _ (w.heap.size+1) 36 (v::ms:List Value).toArray (0,0) _ rfl (RZr.out.setRow (v::ms)) Tryz.underlying36 rfl hlf3.out) rfl ?_
   have HE:=Hd (show Below w.heap.size w (wr.setRow (w.heap.size+1) (v::ms:List Value).toArray) from below_setRow (belowThen H3.out HBr.out) (by omega) _)
   have htk:l.take l.length=l:=List.take_length
   rw [htk] at HO HF
   have ho:=own_far (g:=w.heap.size+1) (new:=(v::ms:List Value).toArray) HO.out (fun q hq=>by have:=(HO.out.lt q hq).1;omega)
   obtain ⟨ad,cp,rfl,hfa⟩:=funcs_own (N:=N) (l:=usedF L l) ho rfl (fun j hj=>FuncD.At.mono (Nat.le_trans hB HE.out.size) _ ((HF.out j hj).below (HE.out.mono hB)))
   exact ⟨_,0,usedF L l,x,rfl,Hd H0.out.symm,Hd ⟨ad,cp,ms,rfl,hfa,ExprD.At.mono (Nat.le_trans hB HE.out.size) _ (HX.out.below (HE.out.mono hB))⟩,Hd ⟨fun h=>absurd rfl h,fun _=>⟨L,HUL.out,rfl,rfl⟩⟩,HE.out⟩
  obtain ⟨b,p,rfl,hb,hget⟩:=HA.out.get (by intro h;simp [h] at hlt)
  obtain ⟨fs,g1,g2⟩:=hget k hlt
  have hfl:fs.length=19:=g2.len
  have hlfs:=Hd (show (Tryz.prog.info? 82).map (·.size)=some fs.length by rw [hfl];exact sizeFN)
  have hfl2:=Hd hfl
  have h3B:B≤w3.heap.size:=Nat.le_trans hB H3.out.size
  have HFR:=Hd (show ∀ u,Below w3.heap.size w3 u→CellsAt u b (p+k * 19) fs from fun u hu=>g1.below ((belowThen H3.out hu).mono hB) hb)
  have G2:=Hd g2
  obtain ⟨pa,pc,es,gh⟩:=g2.has
  have HFO:=Hd gh.one
  have hfn:=gh.name
  have e0:=(HFR.out _ HBr.out).get0' hfn
  have HST:=Hd (usedF_step L l hlt)
  have hfz:=fold_zip0 fs #[.string ⟨#[]⟩,.slice none 0 0,.int .i64 0,.string ⟨#[]⟩,.int .i64 0,.bool false,.bool false,.string ⟨#[]⟩,.int .i64 0,.int .i64 0,.int .i64 0,.int .i64 0,.int .i64 0,.string ⟨#[]⟩,.slice none 0 0,.slice none 0 0,.slice none 0 0,.slice none 0 0,.slice none 0 0] hfl.symm
  clear g1 g2 gh hget hfl hfn
  go_wp2_with fail
  refine (has_r L l[k].name a c _ 0 w3.heap.size (by have:=HUL.out.len;omega) (HNL.out.keep (Kept.of_below HBr.out))).mono ?_
  rintro e w' ⟨rfl,rfl⟩
  cases hm:memB L l[k].name
  case false =>
   have HS2:=Hd (show usedF L (l.take (k+1))=usedF L (l.take k) by rw [HST.out,hm];simp)
   clear hm hfz
   go_wp2_with fail
   go_roundw
   case rel=>exact ⟨k+1,v,xs,by omega,by go_num,HR,by rw [HS2.out];exact HO,by rw [HS2.out];exact HF,HBr⟩
   case measure=>simp [intOf];omega
  have HS2:=Hd (show usedF L (l.take (k+1))=usedF L (l.take k)++[l[k]] by rw [HST.out,hm];simp)
  clear hm
  go_wp2_with fail
  have hUl:=Hd (usedF_le L (l.take k))
  have hTk:(l.take k).length≤1048576:=by rw [List.length_take];omega
  have hUn:(usedF L (l.take k)).length≤1048576:=Nat.le_trans hUl.out hTk
  obtain ⟨n,hn⟩:∃ n,(usedF L (l.take k)).length=n:=⟨_,rfl⟩
  have HN:=Hd hn
  rw [hn] at HO hUn
  clear hn hTk hUl
  have hDB:=belowThen HBr.out (drewW wr)
  refine wp_region_held_drew (S:=fun u=>Below w3.heap.size w3 u) (by kernel_rfl) hDB (fun hHeld=>?_)
  refine' tk 0 (.pointer (some ⟨w3.heap.size,0,none⟩)) rfl rfl (.inl ⟨by rfl,fun u hu=>(by go_simp)⟩) hHeld ?_
  simp only [sq1,sq0]
  refine' tk 2 (.pointer (some ⟨w.heap.size,0,none⟩)) rfl rfl (.inl ⟨by rfl,fun u hu=>(by go_simp)⟩) hHeld ?_
  simp only [sq1,sq0]
  refine' tk 3 (.slice (some ⟨b,p,none⟩) l.length fc) rfl rfl (.inl ⟨by rfl,fun u hu=>(by have hc:=(RG3.out.then hu).cell HC0.out;go_simp)⟩) hHeld ?_
  simp only [sq1,sq0]
  refine' tk 4 (.int .i64 k) rfl rfl (.inl ⟨by rfl,fun u hu=>(by go_simp)⟩) hHeld ?_
  simp only [sq1,sq0]
  refine' tk 5 (.pointer (some ⟨b,p+k * 19,none⟩)) rfl rfl (.inl ⟨by rfl,fun u hu=>(by go_simp)⟩) hHeld ?_
  simp only [sq1,sq0]
  refine' tk 6 _ rfl rfl (yieldsIf_load_mid (by kernel_rfl) 82 _ rfl (b) (p+k * 19) rfl fs _ (fun u hu=>(HFR.out _ hu).range) Tryz.underlying82 rfl hlfs.out) hHeld ?_
  simp only [sq1,sq0]
  refine wpAnyH_ready (rs:=[1,7]) (by kernel_rfl) (by simp) ?_
  have hfl:=hfl2.out
  have hc1:=HR.out.drew.cell (j:=0) (v:=v) rfl
  have hc2:=(HR.out.alloc (.cells fs.toArray 82)).drew.cell (j:=0) (v:=v) rfl
  have hS7:Below w3.heap.size w3 (wr.alloc (.cells fs.toArray 82)).drew:=belowThen HBr.out (belowThen (belowBox wr _) (drewW _))
  refine AllReadyH.cons rfl (fun K hK=>?_) (AllReadyH.cons rfl (fun K hK=>?_) AllReadyH.nil)
  go_simp
  refine hK.out _ _ hHeld (fun hHeldx=>?_)
  clear hK K hHeldx
  refine rd1 7 rfl (fun K hK=>?_)
  go_simp
  refine hK.out _ _ hS7 (fun hHeld7=>?_)
  clear hK K hHeld
  rotate_left
  go_simp
  refine hK.out _ _ hS7 (fun hHeld7=>?_)
  clear hK K hHeld
  refine rd1 1 rfl (fun K hK=>?_)
  go_simp
  refine hK.out _ _ hHeld7 (fun hHeldx=>?_)
  clear hK K hHeldx
  all_goals
   refine rd1 8 rfl (fun K hK=>?_)
   rw [if_pos (by kernel_rfl)]
   refine wp_append_any _ _ 22 rfl (w3.heap.size+1) 82 i0 (.agg z0) 19 280 Tryz.underlying22 HI.out HZ0.out HZ1.out HZ2.out HZS.out (by decide) v n xs rfl (own_then HO.out (belowThen (belowBox wr (.cells fs.toArray 82)) (drewW _))) (some ⟨wr.heap.size,0,none⟩) 1 1 fs rfl (by rw [hfl]) (src_new wr fs 82 1) (fun h=>by cases h) HFO.out (by unfold maxLen;omega) (by omega) (by have:=hHeld7.size;have:=HR.out.lt;have:=HBr.out.size;show _≤(wr.alloc _).heap.size;rw [World.size_alloc];omega) ?_
   intro v5 u5 ho5 hgr5 hat5
   obtain ⟨a5,c5,rfl⟩:=own_slice ho5
   obtain ⟨m,hm⟩:∃ m,m=n+1:=⟨_,rfl⟩
   have HM:=Hd hm
   rw [← hm] at ho5 hat5 ⊢
   clear hm
   have hne5:∀ j,v.ownBlock=some j→w3.heap.size+1≤j:=fun j hj=>(HO.out.lt j hj).1
   have HR5:=Hd (show RowT 36 u5 w3.heap.size (v::ms) from (hgr5.block w3.heap.size ((HR.out.alloc (.cells fs.toArray 82)).lt) (fun e=>by have:=hne5 _ e.symm;omega)).trans (HR.out.alloc (.cells fs.toArray 82)))
   have hS5:Below w3.heap.size w3 u5:=hHeld7.grown hgr5 hHeld7.size (fun j hj=>by have:=hne5 j hj;omega)
   have HO5:=Hd ho5
   refine hK.out _ _ hS5 (fun hHeld5=>?_)
   clear hK K hHeld7 ho5 hgr5 hat5 hne5 hS5
   refine rd1 9 rfl (fun K hK=>?_)
   go_simp
   refine hK.out _ _ hHeld5 (fun hHeldx=>?_)
   clear hK K hHeldx
   refine rd1 10 rfl (fun K hK=>?_)
   have q5:=HR5.out.cell (j:=0) (v:=v) rfl
   have f5:=HR5.out.frozen 0
   go_simp
   have HR6:=Hd (show RowT 36 (u5.setCell ⟨w3.heap.size,0,none⟩ (.slice a5 m c5)) w3.heap.size ((.slice a5 m c5)::ms) from HR5.out.set 0 (.slice a5 m c5))
   have hS6:Below w3.heap.size w3 (u5.setCell ⟨w3.heap.size,0,none⟩ (.slice a5 m c5)):=below_set hHeld5 (Nat.le_refl _) (.slice a5 m c5)
   have HO6:=Hd (own_cell (g:=w3.heap.size) (j:=0) (u:=(.slice a5 m c5)) HO5.out (fun q hq=>by have:=(HO5.out.lt q hq).1;omega))
   refine hK.out _ _ hS6 (fun hHeld6=>?_)
   clear hK K hHeld5 q5 f5 hS6
   refine wpAnyH_done (by kernel_rfl) ?_ _
   obtain ⟨u6,hu6⟩:∃ u6,u6=u5.setCell ⟨w3.heap.size,0,none⟩ (.slice a5 m c5):=⟨_,rfl⟩
   rw [← hu6] at HR6 HO6 hHeld6 ⊢
   have HB6:=Hd hHeld6
   have hxs:=Hd HO.out.1
   clear hu6 hHeld6 hc1 hc2 hS7 hfz hfl
   go_wp2_with fail
   go_roundw
   case rel =>
    refine ⟨k+1,(.slice a5 m c5),xs++fs,by omega,by go_num,HR6,?_,Hd (fun j hj=>?_),HB6⟩
    ·rw [HS2.out,List.length_append,HN.out,show n+[l[k]].length=m by rw [HM.out];rfl];exact HO6
    ·have hj2:j<n+1:=by rw [HS2.out,List.length_append,HN.out] at hj;simpa using hj
     rw [drop_take_append19 hxs.out hfl2.out hj2]
     split
     ·rename_i hjn
      have e:(usedF L (l.take (k+1)))[j]=(usedF L (l.take k))[j]'(by rw [HN.out];exact hjn):=by
       simp only [HS2.out]
       rw [List.getElem_append_left]
      rw [e]
      exact HF.out j (by rw [HN.out];exact hjn)
     ·obtain rfl:j=n:=by omega
      have e:(usedF L (l.take (k+1)))[j]=l[k]:=by
       simp only [HS2.out]
       rw [List.getElem_append_right (by rw [HN.out];exact Nat.le_refl _)]
       simp
      rw [e]
      exact G2.out
   case measure=>simp [intOf];omega
end Go.Proofs.YticpebgjbfanpaaGreatDoor
