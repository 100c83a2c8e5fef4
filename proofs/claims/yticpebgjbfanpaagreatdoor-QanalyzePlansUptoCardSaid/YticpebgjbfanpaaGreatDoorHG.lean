/- Rows of any type that may be written: one cell,a part,all of it. -/
import Derived.Test.YticpebgjbfanpaaGreatDoorCpx43
import Derived.Laws.CopyRow
import Derived.Test.YticpebgjbfanpaaGreatDoorGA
import Derived.Test.YticpebgjbfanpaaGreatDoorGD
import Derived.Test.YticpebgjbfanpaaGreatDoorHE
namespace Go.Proofs.YticpebgjbfanpaaGreatDoor
open Go.RowKit
def RowT (t:TypeId) (w:World) (b:Nat) (cs:List Value):Prop:=w.heap[b]?=some (.cells cs.toArray t (0,0))
theorem RowT.cell {t:TypeId} {w:World} {b j:Nat} {cs:List Value} {v:Value} (h:RowT t w b cs) (hv:cs[j]?=some v):w.cell? ⟨b,j,none⟩=some v:=by
 rw [cell_of_row w b j _ _ _ h];simpa using hv
theorem RowT.frozen {t:TypeId} {w:World} {b:Nat} {cs:List Value} (h:RowT t w b cs) (j:Nat):w.frozen? ⟨b,j,none⟩=false:=frozen_of_row w b j _ _ h
theorem RowT.lt {t:TypeId} {w:World} {b:Nat} {cs:List Value} (h:RowT t w b cs):b<w.heap.size:=(Array.getElem?_eq_some_iff.1 h).1
theorem RowT.below {t:TypeId} {w w':World} {B b:Nat} {cs:List Value} (h:RowT t w b cs) (hb:Below B w w') (hlt:b<B):RowT t w' b cs:=(hb.block b hlt).trans h
theorem RowT.then {t:TypeId} {w w':World} {b:Nat} {cs:List Value} (h:RowT t w b cs) (hb:Below w.heap.size w w'):RowT t w' b cs:=h.below hb h.lt
theorem RowT.cells {t:TypeId} {w:World} {b:Nat} {cs:List Value} (h:RowT t w b cs):CellsAt w b 0 cs:=fun j hj=>by
 rw [Nat.zero_add,cell_of_row w b j _ _ _ h]
 simp
theorem RowT.range {t:TypeId} {w:World} {b:Nat} {cs:List Value} (h:RowT t w b cs):w.rangeAt b 0 cs:=h.cells.range
theorem RowT.alloc {t:TypeId} {w:World} {b:Nat} {cs:List Value} (h:RowT t w b cs) (o:Obj):RowT t (w.alloc o) b cs:=(heap_alloc_old w o h.lt).trans h
theorem RowT.new (w:World) (t:TypeId) (cs:List Value):RowT t (w.alloc (.cells cs.toArray t)) w.heap.size cs:=heap_alloc_new w _
theorem RowT.drew {t:TypeId} {w:World} {b:Nat} {cs:List Value} (h:RowT t w b cs):RowT t w.drew b cs:=h
theorem RowT.set {t:TypeId} {w:World} {b:Nat} {cs:List Value} (h:RowT t w b cs) (j:Nat) (v:Value):RowT t (w.setCell ⟨b,j,none⟩ v) b (cs.set j v):=by
 unfold RowT
 rw [heap_setCell_same w b j _ _ _ h,List.setIfInBounds_toArray]
theorem RowT.setOther {t:TypeId} {w:World} {b b':Nat} {cs:List Value} (h:RowT t w b cs) (hne:b≠b') (j:Nat) (v:Value):RowT t (w.setCell ⟨b',j,none⟩ v) b cs:=by
 unfold RowT
 rw [heap_setCell_other _ _ _ _ (by simpa using hne)]
 exact h
theorem RowT.setRow {t:TypeId} {w:World} {b:Nat} {cs:List Value} (h:RowT t w b cs) (new:List Value):RowT t (w.setRow b new.toArray) b new:=setRow_heap w b _ _ t _ h
theorem RowT.setRowOther {t:TypeId} {w:World} {b b':Nat} {cs:List Value} (h:RowT t w b cs) (hne:b≠b') (new:Array Value):RowT t (w.setRow b' new) b cs:=(setRow_other w b' b new hne).trans h
theorem cellsOfRange {w:World} {b o:Nat} {cs:List Value} (h:w.rangeAt b o cs):CellsAt w b o cs:=fun j hj=>by rw [List.getElem?_eq_getElem hj];exact h j _ (List.getElem?_eq_getElem hj)
theorem below_set {B b j:Nat} {w0 w:World} (h:Below B w0 w) (hb:B≤b) (v:Value):Below B w0 (w.setCell ⟨b,j,none⟩ v):=h.setCell hb _
theorem wp_store_at {P:Program} {o:Oper} {a:Act} {w:World} {K:Act→World→Prop} {Q:Exit→Act→World→Prop} (ty:TypeId) (x y:Operand) (ho:o.op=.store ty x y)
 (g q:Nat) (cells:List Value) (hx:a.eval x=.pointer (some ⟨g,q,none⟩)) (hy:a.eval y=.agg cells.toArray)
 (t:TypeId) (old new:List Value) (hg:RowT t w g old) (hi:(P.info? ty).map (·.size)=some cells.length)
 (hn:new=old.take q++cells++old.drop (q+cells.length)) (hfit:q+cells.length≤old.length) (h1:∀ v∈cells,v.oneCell'=true)
 (h:K (a.put o.dst undef) (w.setRow g new.toArray)):o.wp P a w K Q:=by
 have hst:=run_storeCells_at P g q t cells 0 old.toArray w hg (by simpa using hfit) h1
 have hrun:(storeVar ty ⟨g,q,none⟩ (.agg cells.toArray)).run P w=.ok () (w.setRow g new.toArray):=by
  cases hq:P.info? ty with
  | none=>simp [hq] at hi
  | some i =>
    have hs:cells.length=i.size:=by simp [hq] at hi;omega
    simp [storeVar,sizeOf,typeInfo,hq,Value.cells,hs,hn]
    simpa [hs] using hst
 unfold Oper.wp execOp
 simp only [ho,hx,hy,Instr.storeAt,Instr.sureAddr,Sem.run_bind,Sem.run_pure,Result.andThen_ok,hrun]
 exact h
theorem wpList_store_at {P:Program} {ops:Array Oper} {rest:List Oper} {o:Oper} {a:Act} {w:World} {Q:Exit→Act→World→Prop} (hgd:o.guard=none) (ty:TypeId) (x y:Operand) (ho:o.op=.store ty x y)
 (g q:Nat) (cells:List Value) (hx:a.eval x=.pointer (some ⟨g,q,none⟩)) (hy:a.eval y=.agg cells.toArray)
 (t:TypeId) (old new:List Value) (hg:RowT t w g old) (hi:(P.info? ty).map (·.size)=some cells.length)
 (hn:new=old.take q++cells++old.drop (q+cells.length)) (hfit:q+cells.length≤old.length) (h1:∀ v∈cells,v.oneCell'=true)
 (h:wpList P ops Q rest (a.put o.dst undef) (w.setRow g new.toArray)):wpList P ops Q (o::rest) a w :=
 wpList_plain hgd fun _ hK=>wp_store_at ty x y ho g q cells hx hy t old new hg hi hn hfit h1 (hK _ _ h)
theorem own_far {w:World} {base sz n g:Nat} {t:TypeId} {v:Value} {xs:List Value} {new:Array Value} (h:w.ownsRow base t sz v n xs) (hg:∀ q,v.ownBlock=some q→q≠g):(w.setRow g new).ownsRow base t sz v n xs:=by
 refine ⟨h.1,?_⟩
 rcases h.2 with hn | ⟨q,cap,cur,rfl,h1,h2,rest⟩
 ·exact .inl hn
 ·exact .inr ⟨q,cap,cur,rfl,h1,(setRow_other w g q new (hg q rfl)).trans h2,rest⟩
end Go.Proofs.YticpebgjbfanpaaGreatDoor

/- decimal.ToInt and datakitref02.ToInt: both compute the same of a valid decimal. -/
namespace Go.Proofs.YticpebgjbfanpaaGreatDoor
open Go.RowKit
def maxN:List UInt8:=[57,50,50,51,51,55,50,48,51,54,56,53,52,55,55,53,56,48,56]
def decT (d:DecD):ByteArray:=d.digits++zerosS d.exp.toNat
def toI (d:DecD):Int×Int :=
 if 19<d.digits.size+d.exp then (0,2)
 else if d.neg=true∧(decT d).toList=maxN then (-9223372036854775808,0)
 else (if d.neg then -(toIntF (decT d)).1 else (toIntF (decT d)).1,(toIntF (decT d)).2)
theorem toIntF_cases (s:ByteArray):(∃ n:Nat,toIntF s=((n:Int),0)∧n≤9223372036854775807∧n=dv s.data.toList)∨(toIntF s=(0,2)∧9223372036854775807<dv s.data.toList):=by
 unfold toIntF
 by_cases h:dv s.data.toList≤9223372036854775807
 ·exact .inl ⟨_,by rw [if_pos h],h,rfl⟩
 ·exact .inr ⟨by rw [if_neg h],by omega⟩
theorem zerosS_size (n:Nat):(zerosS n).size=n:=by unfold zerosS;rw [strOfNums_size,List.length_replicate]
theorem byteI_append (a b:ByteArray) (i:Nat):byteI (a++b) i=if i<a.size then byteI a i else byteI b (i-a.size):=by
 unfold byteI
 by_cases h:i<a.size
 ·rw [if_pos h,dif_pos h,dif_pos (by rw [ByteArray.size_append];omega),ByteArray.getElem_append_left h]
 ·rw [if_neg h]
  by_cases h2:i-a.size<b.size
  ·rw [dif_pos h2,dif_pos (by rw [ByteArray.size_append];omega),ByteArray.getElem_append_right (by omega)]
  ·rw [dif_neg h2,dif_neg (by rw [ByteArray.size_append];omega)]
theorem byteI_zeros (n i:Nat) (h:i<n):byteI (zerosS n) i=48:=by
 rw [← byteI_eq (by rw [zerosS_size];exact h)]
 have:(zerosS n)[i]'(by rw [zerosS_size];exact h)=48:=by
  unfold zerosS strOfNums
  show (List.map _ _).toArray[i]'_=_
  simp
 rw [this]
 rfl
theorem decT_good {d:DecD} (hv:VDec d) (h0:0≤d.exp) (h19:d.digits.size+d.exp≤19):DigS (decT d)∧(decT d).size≤19∧((decT d).size=0∨byteI (decT d) 0≠48):=by
 have hsz:(decT d).size=d.digits.size+d.exp.toNat:=by unfold decT;rw [ByteArray.size_append,zerosS_size]
 refine ⟨fun i hi=>?_,by omega,?_⟩
 ·unfold decT
  rw [byteI_append]
  by_cases h:i<d.digits.size
  ·rw [if_pos h]
   rcases hv with ⟨h1,_,_⟩ | ⟨_,_,hdg,_⟩
   ·omega
   ·exact hdg i h
  ·rw [if_neg h,byteI_zeros _ _ (by omega)]
   omega
 ·rcases hv with ⟨h1,_,he⟩ | ⟨hp,_,_,hf,_⟩
  ·exact .inl (by rw [hsz,h1,he];rfl)
  ·refine .inr ?_
   unfold decT
   rw [byteI_append,if_pos hp]
   exact hf
theorem dv_maxN:dv maxN=9223372036854775808:=by decide +kernel
theorem toList_data (s:ByteArray):s.toList=s.data.toList:=ByteArray.toList_eq _
theorem box3 {w w2:World} {x y z:Value} {t:TypeId} (hb:Below (w.alloc (.cells #[x,y,z] t)).drew.heap.size (w.alloc (.cells #[x,y,z] t)).drew w2) :
 w2.cell? ⟨w.heap.size,0,none⟩=some x∧w2.cell? ⟨w.heap.size,1,none⟩=some y∧w2.cell? ⟨w.heap.size,2,none⟩=some z∧Below w.heap.size w w2:=by
 have hb':Below (w.alloc (.cells #[x,y,z] t)).heap.size (w.alloc (.cells #[x,y,z] t)) w2:=⟨hb.os,hb.tape,hb.output,hb.size,hb.block⟩
 have hs:w.heap.size<(w.alloc (.cells #[x,y,z] t)).heap.size:=by rw [World.size_alloc];omega
 have hc:=(box_at w [x,y,z] t).then hb' hs
 exact ⟨hc.get0 rfl,hc.get0 rfl,hc.get0 rfl,belowThen (belowBox w _) hb'⟩
def ToIR (d:DecD) (w:World) (e:Ending) (w':World):Prop:=e=.returned (.tuple #[.int .i64 (toI d).1,.int .i64 (toI d).2])∧Below w.heap.size w w'
def IntN (n k:Int) (w:World) (e:Ending) (w':World):Prop:=e=.returned (.tuple #[.int .i64 n,.int .i64 k])∧w=w'
theorem toInt_ref_n (s:ByteArray) (w:World) {n k:Int} (h:toIntF s=(n,k)) (h19:s.size≤19) (hd:DigS s) (h0:s.size=0∨byteI s 0≠48):Calls Tryz.prog 79 #[.string s] w (IntN n k w) :=
 (toInt_ref s w h19 hd h0).mono fun e w' hh=>⟨by rw [hh.1,h],hh.2⟩
theorem toI_ways {ng:Bool} {dg:ByteArray} {m:Nat} (hb:¬ 19<dg.size+(m:Int)) :
 (ng=true∧toI ⟨ng,dg,m⟩=(-9223372036854775808,0)∧(dg++zerosS m).toList=maxN∧toIntF (dg++zerosS m)=(0,2)) ∨
 (ng=true∧¬ (dg++zerosS m).toList=maxN∧((∃ n:Nat,(n:Int)≤9223372036854775807∧toIntF (dg++zerosS m)=((n:Int),0)∧toI ⟨ng,dg,m⟩=(-(n:Int),0))∨(toIntF (dg++zerosS m)=(0,2)∧toI ⟨ng,dg,m⟩=(0,2)))) ∨
 (ng=false∧((∃ n:Nat,(n:Int)≤9223372036854775807∧toIntF (dg++zerosS m)=((n:Int),0)∧toI ⟨ng,dg,m⟩=((n:Int),0))∨(toIntF (dg++zerosS m)=(0,2)∧toI ⟨ng,dg,m⟩=(0,2)))):=by
 have e:decT ⟨ng,dg,m⟩=dg++zerosS m:=rfl
 unfold toI
 rw [if_neg hb,e]
 cases ng with
 | false =>
   refine .inr (.inr ⟨rfl,?_⟩)
   rcases toIntF_cases (dg++zerosS m) with ⟨n,h1,h2,_⟩ | ⟨h1,_⟩
   ·exact .inl ⟨n,by omega,h1,by rw [h1];simp⟩
   ·exact .inr ⟨h1,by rw [h1];simp⟩
 | true =>
   by_cases hm:(dg++zerosS m).toList=maxN
   ·refine .inl ⟨rfl,by rw [if_pos ⟨rfl,hm⟩],hm,?_⟩
    rcases toIntF_cases (dg++zerosS m) with ⟨n,h1,h2,h3⟩ | ⟨h1,_⟩
    ·rw [← toList_data,hm,dv_maxN] at h3
     omega
    ·exact h1
   ·refine .inr (.inl ⟨rfl,hm,?_⟩)
    rw [if_neg (fun h=>hm h.2)]
    rcases toIntF_cases (dg++zerosS m) with ⟨n,h1,h2,_⟩ | ⟨h1,_⟩
    ·exact .inl ⟨n,by omega,h1,by rw [h1];simp⟩
    ·exact .inr ⟨h1,by rw [h1];simp⟩
set_option maxRecDepth 100000 in
set_option maxHeartbeats 3200000 in
theorem toi_ref (d:DecD) (w:World) (hv:VDec d) (he:0≤d.exp):Calls Tryz.prog 50 #[.agg #[.bool d.neg,.string d.digits,.int .i64 d.exp]] w (ToIR d w):=by
 have hs:d.digits.size≤120:=by rcases hv with ⟨h,_⟩ | ⟨_,h,_⟩<;>omega
 have hx:d.exp≤400:=by rcases hv with ⟨_,_,h⟩ | ⟨_,_,_,_,_,_,h⟩<;>omega
 by_cases hbig:19<d.digits.size+d.exp
 ·have HZ:=Hd (show toI d=(0,2) by unfold toI;rw [if_pos hbig])
  clear hv
  go_enter Tryz.func50,Tryz.ntmps50
  go_wp2_with fail
  go_ret2
  exact ⟨by rw [HZ.out];rfl,Below.box _ _⟩
 obtain ⟨g1,g2,g3⟩:=decT_good hv he (by omega)
 obtain ⟨m,hm⟩:∃ m:Nat,d.exp=m:=⟨d.exp.toNat,by omega⟩
 clear hv
 rcases d with ⟨ng,dg,ex⟩
 simp only at hs hx he hbig hm
 subst hm
 have G1:=Hd (show DigS (dg++zerosS m) from g1)
 have G2:(dg++zerosS m).size≤19:=g2
 have G3:=Hd (show (dg++zerosS m).size=0∨byteI (dg++zerosS m) 0≠48 from g3)
 have hz:=zerosS_size m
 have hsum:¬ 9223372036854775807<dg.size+m:=by omega
 have hw:=toI_ways (ng:=ng) hbig
 clear g1 g2 g3
 generalize hT:dg++zerosS m=T at G1 G2 G3 hw
 have HT:=Hd hT
 clear hT
 rcases hw with ⟨rfl,hI,hM,hF⟩ | ⟨rfl,hM,⟨n,hn,hF,hI⟩ | ⟨hF,hI⟩⟩ | ⟨rfl,⟨n,hn,hF,hI⟩ | ⟨hF,hI⟩⟩
 ·have HI:=Hd hI
  have hM2:(T.toList==[57,50,50,51,51,55,50,48,51,54,56,53,52,55,55,53,56,48,56])=true:=by rw [hM];rfl
  have HM2:=Hd hM2
  clear hI hM hF hM2
  go_enter Tryz.func50,Tryz.ntmps50
  go_wp2_with fail
  go_region_with (go_at_call 78;refine (noughts_ex m _ (by omega)).mono ?_;rintro e w2 ⟨rfl,hb2⟩;have b3:=box3 hb2;have d0:=b3.1;have d1:=b3.2.1;have d2:=b3.2.2.1;have HB2:=Hd b3.2.2.2;clear b3 hb2)
  all_goals
   (rw [HT.out]
    have hM2:=HM2.out
    go_wp2_with fail
    go_ret2
    exact ⟨by rw [HI.out];rfl,HB2.out⟩)
 all_goals
  have HI:=Hd hI
  have HF:=Hd hF
  clear hI hF
  go_enter Tryz.func50,Tryz.ntmps50
  go_wp2_with fail
  go_region_with (go_at_call 78;refine (noughts_ex m _ (by omega)).mono ?_;rintro e w2 ⟨rfl,hb2⟩;have b3:=box3 hb2;have d0:=b3.1;have d1:=b3.2.1;have d2:=b3.2.2.1;have HB2:=Hd b3.2.2.2;clear b3 hb2)
  all_goals
   (rw [HT.out]
    try (have hM2:(T.toList==[57,50,50,51,51,55,50,48,51,54,56,53,52,55,55,53,56,48,56])=false:=by simpa [maxN] using hM)
    go_wp2_with (go_at_call 79;refine (toInt_ref_n T _ HF.out G2 G1.out G3.out).mono ?_;rintro e w' ⟨rfl,rfl⟩)
    go_ret2
    exact ⟨by rw [HI.out];rfl,HB2.out⟩)
end Go.Proofs.YticpebgjbfanpaaGreatDoor

/- What an accepted expression is,node by node: its form,its literal,its absent arguments;and what of it is a selection or constant. No program here. -/
namespace Go.Proofs.YticpebgjbfanpaaGreatDoor
open Go.RowKit
def wf1 (e:ExprD):Prop:=formB e=true∧(e.op=3→chkD e.val=0)
def wfE:Nat→ExprD→Prop
 | 0,e=>wf1 e∧e.args=[]∧e.funcs=[]
 | m+1,e=>wf1 e∧(∀ a∈e.args,a.op=30∨wfE m a)∧∀ f∈e.funcs,f.body.op=30∨wfE m f.body
theorem wfE_1 {m:Nat} {e:ExprD} (h:wfE m e):wf1 e:=by
 cases m with
 | zero=>exact h.1
 | succ m=>exact h.1
theorem look_wf (idB:ByteArray→Bool) (rgB:ExprD→Bool):∀ (m:Nat) (x:ExprD) (s y:Int),lookE idB rgB (m+1) x s=(y,0)→wfE m x:=by
 intro m
 induction m with
 | zero =>
   intro x s y h
   obtain ⟨ha,hf⟩:=(look_done idB rgB 0 x s y h).1
   refine ⟨?_,ha,hf⟩
   rw [lookE] at h
   split at h
   ·simp at h
   split at h
   ·simp at h
   split at h
   ·rename_i hc;simp at h;exact absurd h.2 hc.2
   rename_i hfb hc
   exact ⟨by simpa using hfb,fun h3=>by
    rcases Classical.em (chkD x.val=0) with h4 | h4
    ·exact h4
    ·exact absurd ⟨h3,h4⟩ hc⟩
 | succ m ih =>
   intro x s y h'
   rw [lookE] at h'
   split at h'
   ·simp at h'
   split at h'
   ·simp at h'
   split at h'
   ·rename_i hc;simp at h';exact absurd h'.2 hc.2
   split at h'
   ·simp at h'
   split at h'
   ·simp at h'
   split at h'
   ·rename_i hh;rw [h'] at hh;exact absurd rfl hh
   ·rename_i hfb hc _ _ h2
    have hfb':formB x=true:=by simpa using hfb
    have hq:wf1 x:=⟨hfb',fun h3=>by
     rcases Classical.em (chkD x.val=0) with h4 | h4
     ·exact h4
     ·exact absurd ⟨h3,h4⟩ hc⟩
    have h3:=Classical.not_not.1 h2
    obtain ⟨p,q,hpq⟩:∃ p q,funsE idB (lookE idB rgB (m+1)) [] x.funcs (s+1)=(p,q):=⟨_,_,rfl⟩
    rw [hpq] at h3 h'
    obtain rfl:q=0:=h3
    have ih2:∀ x s y,lookE idB rgB (m+1) x s=(y,0)→(x.op=30∨wfE m x)∧y=s+ndE m x:=fun x s y h=>⟨.inr (ih x s y h),(look_done idB rgB m x s y h).2⟩
    obtain ⟨f1,_⟩:=funs_done idB (lookE idB rgB (m+1)) (fun u=>u.op=30∨wfE m u) (ndE m) ih2 x.funcs [] (s+1) p hpq
    obtain ⟨k1,_⟩:=kids_done (m+1) (lookE idB rgB (m+1)) (fun u=>u.op=30∨wfE m u) (ndE m) ih2 x.args _ y (fun u hu ho _=>by
     obtain ⟨a1,a2⟩:=form_abs hfb' hu ho
     exact ⟨.inl ho,ndE_leaf m a1 a2⟩) h'
    exact ⟨hq,k1,f1⟩
theorem err_wf {x:ExprD} (h:errE x=0):wfE 47 x:=look_wf identB rgB 47 x 0 (lkE 48 x 0).1 (Prod.ext rfl h)
theorem wf_num {e:ExprD} (h:wf1 e) {n:Nat} (hn:numE e.op=n):e.args.length=n:=by
 obtain ⟨_,_,h3,_⟩:=of_decide_eq_true h.1
 have:=h3 (by omega)
 omega
theorem wf_abs {e:ExprD} (h:wf1 e) {k:Nat} (hk:k<e.args.length) (ho:e.args[k].op=30):optE e.op≤k∧absB e.args[k]=true:=by
 obtain ⟨_,_,_,_,_,ha,_⟩:=of_decide_eq_true h.1
 unfold argsB at ha
 rw [List.all_eq_true] at ha
 have h1:=of_decide_eq_true (ha k (by simpa using hk))
 simp only [List.getD_eq_getElem?_getD,List.getElem?_eq_getElem hk,Option.getD_some] at h1
 exact h1 ho
theorem wf_kid {m:Nat} {e:ExprD} (h:wfE m e) {k:Nat} (hk:k<e.args.length):e.args[k].op=30∨∃ m',m=m'+1∧wfE m' e.args[k]:=by
 cases m with
 | zero =>
   obtain ⟨_,ha,_⟩:=h
   rw [ha] at hk
   simp at hk
 | succ m =>
   rcases h.2.1 _ (List.getElem_mem hk) with h1 | h1
   ·exact .inl h1
   ·exact .inr ⟨m,rfl,h1⟩
theorem wf_dec {e:ExprD} (h:wf1 e):VDec e.val.num∧e.val.num.neg=false∧(e.op≠3→e.val.kind=0∧e.val.num.exp=0):=by
 obtain ⟨_,_,_,_,_,_,_,_,hz,_,_,hl,_⟩:=of_decide_eq_true h.1
 by_cases h3:e.op=3
 ·have hc:=h.2 h3
  have ho:oneE e.val=0:=by
   rcases Classical.em (oneE e.val=0) with h | h
   ·exact h
   ·exfalso
    have h1:(lookD 48 e.val 0).2=0:=hc
    rw [show lookD 48 e.val 0=(if 65536≤(0:Int) then (0,10) else if oneE e.val=0 then kidsL (lookD 47) (kidsD e.val) (0+1) else (0,oneE e.val)) from rfl,if_neg (by decide),if_neg h] at h1
    exact h h1
  unfold oneE at ho
  split at ho
  ·simp at ho
  rename_i h1
  split at ho
  ·simp at ho
  rename_i h2
  have hd:vdecB e.val.num=true:=by
   cases hq:vdecB e.val.num
   ·exact absurd (.inl hq) h2
   ·rfl
  refine ⟨(vdecB_iff _).1 hd,?_,fun h=>absurd h3 h⟩
  have hk:=of_decide_eq_true (hl h3)
  have hw:=of_decide_eq_true (show ownB e.val=true by simpa using h1)
  by_cases h2:e.val.kind=2
  ·rcases hk with hk | hk | ⟨_,hk⟩ | hk
   ·omega
   ·omega
   ·exact hk
   ·omega
  ·have:=hw.2.2.2.1 h2
   simp [decB] at this
   exact this.1
 ·have hz':=of_decide_eq_true (hz.resolve_left h3)
  obtain ⟨k0,_,k1,_⟩:=hz'
  refine ⟨(vdecB_iff _).1 (vdec_zero k1),?_,fun _=>⟨k0,?_⟩⟩
  ·simp [decB] at k1
   exact k1.1
  ·simp [decB] at k1
   exact k1.2.2
end Go.Proofs.YticpebgjbfanpaaGreatDoor

/- The plan of a program,as the document has it,on trees: what is constant,what is a selection. No program here. -/
namespace Go.Proofs.YticpebgjbfanpaaGreatDoor
open Go.RowKit
theorem dv_app (a b:List UInt8):dv (a++b)=dv a * 10 ^ b.length+dv b:=by
 show (a++b).foldl _ 0=_
 rw [List.foldl_append,fold_acc]
 rfl
theorem dv_rep:∀ m:Nat,dv (List.replicate m 48)=0
 | 0=>rfl
 | m+1=>by rw [List.replicate_succ,dv_cons,dv_rep m];simp
theorem zerosS_list (m:Nat):(zerosS m).data.toList=List.replicate m 48:=by
 unfold zerosS strOfNums
 simp
theorem dv_decT (d:DecD):dv (decT d).data.toList=dv d.digits.data.toList * 10 ^ d.exp.toNat:=by
 unfold decT
 rw [show (d.digits++zerosS d.exp.toNat).data.toList=d.digits.data.toList++(zerosS d.exp.toNat).data.toList by simp [ByteArray.data_append],dv_app,zerosS_list,dv_rep,List.length_replicate,Nat.add_zero]
theorem decT_size (d:DecD):(decT d).size=d.digits.size+d.exp.toNat:=by unfold decT;rw [ByteArray.size_append,zerosS_size]
theorem toI_val {d:DecD} (hv:VDec d) (hn:d.neg=false) (he:0≤d.exp) (h:d.digits.size+d.exp≤18):toI d=(((dv d.digits.data.toList * 10 ^ d.exp.toNat:Nat):Int),0):=by
 obtain ⟨g1,g2,_⟩:=decT_good hv he (by omega)
 unfold toI
 rw [if_neg (by omega),hn,toInt_val g1 (.inl (by rw [decT_size];omega)),dv_decT]
 simp
theorem dv_low {l:List UInt8} (h:5<l.length) (h0:49≤(l[0]'(by omega)).toNat):100000≤dv l:=by
 cases l with
 | nil=>simp at h
 | cons c r =>
   rw [dv_cons]
   have h1:49≤c.toNat:=h0
   have h2:5≤r.length:=by simp at h;omega
   have h3:10 ^ 5≤10 ^ r.length:=Nat.pow_le_pow_right (by omega) h2
   have h4:1 * 10 ^ r.length≤(c.toNat-48) * 10 ^ r.length:=Nat.mul_le_mul_right _ (by omega)
   omega
theorem toI_big {d:DecD} (hv:VDec d) (hn:d.neg=false) (he:0≤d.exp) (h:5<d.digits.size+d.exp):(toI d).2≠0∨65536<(toI d).1:=by
 by_cases h19:19<d.digits.size+d.exp
 ·left
  unfold toI
  rw [if_pos h19]
  decide
 ·obtain ⟨g1,g2,g3⟩:=decT_good hv he (by omega)
  have hsz:=decT_size d
  have hp:5<(decT d).data.toList.length:=by
   show 5<(decT d).size
   omega
  have h0:49≤((decT d).data.toList[0]'(by omega)).toNat:=by
   have hz:0<(decT d).size:=by omega
   have e:((decT d).data.toList[0]'(by omega))=(decT d)[0]'hz:=by simp;rfl
   rw [e]
   have q1:=(g1 0 hz).1
   have q2:=g3.resolve_left (by omega)
   rw [← byteI_eq hz] at q1 q2
   omega
  have hl:=dv_low hp h0
  unfold toI
  rw [if_neg h19,hn]
  rcases toIntF_cases (decT d) with ⟨n,h1,h2,h3⟩ | ⟨h1,_⟩
  ·rw [h1]
   right
   simp
   omega
  ·rw [h1]
   left
   simp
structure SelD where
 each:Bool
 byIdx:Bool
 key:ByteArray
 index:Int
def SelD.cells (s:SelD):List Value:=[.bool s.each,.bool s.byIdx,.string s.key,.int .i64 s.index]
def argN (x:ExprD) (i:Nat):ExprD:=x.args.getD i default
theorem argN_get {x:ExprD} {i:Nat} (h:i<x.args.length):argN x i=x.args[i]:=by unfold argN;rw [List.getD_eq_getElem?_getD,List.getElem?_eq_getElem h];rfl
def smlN (x:ExprD):Option Int:=if x.op=3∧x.val.kind=2∧0≤x.val.num.exp∧(toI x.val.num).2=0∧(toI x.val.num).1≤65536 then some (toI x.val.num).1 else none
def selOf (x:ExprD):Option SelD :=
 if x.op=5 then some ⟨false,false,x.name,0⟩ else if x.op=8 then some ⟨true,false,⟨#[]⟩,0⟩ else (smlN (argN x 1)).map fun n=>⟨false,true,⟨#[]⟩,n⟩
def stepS (g:ExprD→Option (List SelD)) (x:ExprD):Option (List SelD) :=
 if x.op=1 then some [] else if x.op=5∨x.op=6∨x.op=8 then (g (argN x 0)).bind fun l=>(selOf x).map fun s=>l++[s] else none
def selS:Nat→ExprD→Option (List SelD)
 | 0=>stepS fun _=>none
 | m+1=>stepS (selS m)
theorem smlN_lit {x:ExprD} (h:¬ (x.op=3∧x.val.kind=2)):smlN x=none:=by unfold smlN;rw [if_neg (fun g=>h ⟨g.1,g.2.1⟩)]
theorem smlN_frac {x:ExprD} (h:x.val.num.exp<0):smlN x=none:=by unfold smlN;rw [if_neg (fun g=>by omega)]
theorem smlN_big {x:ExprD} (hv:VDec x.val.num) (hn:x.val.num.neg=false) (h:5<x.val.num.digits.size+x.val.num.exp):smlN x=none:=by
 unfold smlN
 rw [if_neg]
 rintro ⟨_,_,he,h1,h2⟩
 rcases toI_big hv hn he h with h | h
 ·exact h h1
 ·omega
theorem smlN_val {x:ExprD} (hv:VDec x.val.num) (hn:x.val.num.neg=false) (h3:x.op=3) (hk:x.val.kind=2) (he:0≤x.val.num.exp) (h:x.val.num.digits.size+x.val.num.exp≤5) :
 smlN x=if dv x.val.num.digits.data.toList * 10 ^ x.val.num.exp.toNat≤65536 then some ((dv x.val.num.digits.data.toList * 10 ^ x.val.num.exp.toNat:Nat):Int) else none:=by
 unfold smlN
 rw [toI_val hv hn he (by omega)]
 split
 ·rename_i g
  rw [if_pos]
  have:=g.2.2.2.2
  simp only at this
  omega
 ·rename_i g
  rw [if_neg]
  intro hq
  exact g ⟨h3,hk,he,rfl,by simp only;omega⟩
def stepC (g:ExprD→Bool) (x:ExprD):Bool :=
 if x.op=3 then true else if x.op=24 then decide ((argN x 0).op=30) || g (argN x 0) else if x.op=11∨x.op=25 then x.args.all g else false
def conS:Nat→ExprD→Bool
 | 0=>stepC fun _=>false
 | m+1=>stepC (conS m)
structure PlnD where
 mode:Int
 steps:List SelD
 name:ByteArray
 init:ExprD
 upd:ExprD
 body:ExprD
def zeroVD:ValD:=.mk 0 false ⟨false,⟨#[]⟩,0⟩ ⟨0,0,0,0⟩ ⟨#[]⟩ [] [] []
def zeroE:ExprD:=.mk 0 ⟨#[]⟩ zeroVD [] []
def identE:ExprD:=.mk 1 ⟨#[]⟩ zeroVD [] []
def okSel (o:Option (List SelD)):Option (List SelD):=o.bind fun l=>if 1≤l.length∧l.length≤48 then some l else none
def mainP (x:ExprD):ExprD:=if x.op=9 then argN x 0 else x
def bodyP (x:ExprD):ExprD:=if x.op=9 then argN x 1 else identE
def foldP (m:ExprD):Bool:=decide (m.op=19∨(m.op=20∧(argN m 3).op=30))
def planS (x:ExprD):Option PlnD :=
 if foldP (mainP x)=true then
  if conS 47 (argN (mainP x) 1)=false then none
  else (okSel (selS 47 (argN (mainP x) 0))).map fun l=>⟨if (mainP x).op=20 then 3 else 2,l,(mainP x).name,argN (mainP x) 1,argN (mainP x) 2,bodyP x⟩
 else (okSel (selS 47 (mainP x))).map fun l=>⟨1,l,⟨#[]⟩,zeroE,zeroE,bodyP x⟩
end Go.Proofs.YticpebgjbfanpaaGreatDoor

/- A plan in memory: its cells,what lies behind them;two readings of a selection are the same. -/
namespace Go.Proofs.YticpebgjbfanpaaGreatDoor
open Go.RowKit
def plnRow (m:Int) (sv:Value) (nm:ByteArray) (ics ucs bcs:List Value) (fv:Value):List Value:=.int .i64 m::sv::.string nm::(ics++(ucs++(bcs++[fv])))
theorem plnRow_len (m:Int) (sv:Value) (nm:ByteArray) {ics ucs bcs:List Value} (fv:Value) (h1:ics.length=17) (h2:ucs.length=17) (h3:bcs.length=17):(plnRow m sv nm ics ucs bcs fv).length=55:=by
 simp [plnRow,h1,h2,h3]
theorem plnRow_0 (m:Int) (sv:Value) (nm:ByteArray) (ics ucs bcs:List Value) (fv:Value):(plnRow m sv nm ics ucs bcs fv)[0]?=some (.int .i64 m):=rfl
theorem plnRow_1 (m:Int) (sv:Value) (nm:ByteArray) (ics ucs bcs:List Value) (fv:Value):(plnRow m sv nm ics ucs bcs fv)[1]?=some sv:=rfl
theorem plnRow_2 (m:Int) (sv:Value) (nm:ByteArray) (ics ucs bcs:List Value) (fv:Value):(plnRow m sv nm ics ucs bcs fv)[2]?=some (.string nm):=rfl
theorem plnRow_54 (m:Int) (sv:Value) (nm:ByteArray) {ics ucs bcs:List Value} (fv:Value) (h1:ics.length=17) (h2:ucs.length=17) (h3:bcs.length=17):(plnRow m sv nm ics ucs bcs fv)[54]?=some fv:=by
 show (ics++(ucs++(bcs++[fv])))[51]?=_
 rw [List.getElem?_append_right (by omega),List.getElem?_append_right (by omega),List.getElem?_append_right (by omega),h1,h2,h3]
 rfl
theorem plnRow_init (m:Int) (sv:Value) (nm:ByteArray) {ics ucs bcs:List Value} (fv:Value) (h1:ics.length=17):((plnRow m sv nm ics ucs bcs fv).drop 3).take 17=ics:=by
 show (ics++(ucs++(bcs++[fv]))).take 17=_
 rw [← h1,List.take_left]
theorem plnRow_upd (m:Int) (sv:Value) (nm:ByteArray) {ics ucs bcs:List Value} (fv:Value) (h1:ics.length=17) (h2:ucs.length=17):((plnRow m sv nm ics ucs bcs fv).drop 20).take 17=ucs:=by
 show ((ics++(ucs++(bcs++[fv]))).drop 17).take 17=_
 rw [← h1,List.drop_left,h1,← h2,List.take_left]
theorem plnRow_body (m:Int) (sv:Value) (nm:ByteArray) {ics ucs bcs:List Value} (fv:Value) (h1:ics.length=17) (h2:ucs.length=17) (h3:bcs.length=17):((plnRow m sv nm ics ucs bcs fv).drop 37).take 17=bcs:=by
 show ((ics++(ucs++(bcs++[fv]))).drop 34).take 17=_
 rw [show (34:Nat)=ics.length+ucs.length by omega,← List.drop_drop,List.drop_left,List.drop_left,← h3,List.take_left]
theorem plnRow_setInit (m:Int) (sv:Value) (nm:ByteArray) {ics ucs bcs ns:List Value} (fv:Value) (h1:ics.length=17) (hn:ns.length=17) :
 plnRow m sv nm ns ucs bcs fv=(plnRow m sv nm ics ucs bcs fv).take 3++ns++(plnRow m sv nm ics ucs bcs fv).drop (3+ns.length):=by
 rw [hn]
 show _=[Value.int .i64 m,sv,.string nm]++ns++(ics++(ucs++(bcs++[fv]))).drop 17
 rw [← h1,List.drop_left]
 simp [plnRow]
theorem plnRow_setUpd (m:Int) (sv:Value) (nm:ByteArray) {ics ucs bcs ns:List Value} (fv:Value) (h1:ics.length=17) (h2:ucs.length=17) (hn:ns.length=17) :
 plnRow m sv nm ics ns bcs fv=(plnRow m sv nm ics ucs bcs fv).take 20++ns++(plnRow m sv nm ics ucs bcs fv).drop (20+ns.length):=by
 rw [hn]
 show _=(Value.int .i64 m::sv::.string nm::(ics++(ucs++(bcs++[fv]))).take 17)++ns++(ics++(ucs++(bcs++[fv]))).drop 34
 rw [show (34:Nat)=ics.length+ucs.length by omega,← List.drop_drop,List.drop_left,List.drop_left,← h1,List.take_left]
 simp [plnRow]
theorem plnRow_setBody (m:Int) (sv:Value) (nm:ByteArray) {ics ucs bcs ns:List Value} (fv:Value) (h1:ics.length=17) (h2:ucs.length=17) (h3:bcs.length=17) (hn:ns.length=17) :
 plnRow m sv nm ics ucs ns fv=(plnRow m sv nm ics ucs bcs fv).take 37++ns++(plnRow m sv nm ics ucs bcs fv).drop (37+ns.length):=by
 rw [hn]
 show _=(Value.int .i64 m::sv::.string nm::(ics++(ucs++(bcs++[fv]))).take 34)++ns++(ics++(ucs++(bcs++[fv]))).drop 51
 rw [show (51:Nat)=ics.length+(ucs.length+bcs.length) by omega,← List.drop_drop,List.drop_left,← List.drop_drop,List.drop_left,List.drop_left]
 rw [show (34:Nat)=(ics++ucs).length by simp;omega,← List.append_assoc ics ucs,List.take_left]
 simp [plnRow]
def SelsAt (w:World) (B:Nat) (l:List SelD) (a:Option Addr):Prop:=l=[]∨∃ b,a=some ⟨b,0,none⟩∧b<B∧CellsAt w b 0 (l.flatMap SelD.cells)
theorem SelsAt.below {w w':World} {B:Nat} {l:List SelD} {a:Option Addr} (h:SelsAt w B l a) (hb:Below B w w'):SelsAt w' B l a:=by
 rcases h with h | ⟨b,h1,h2,h3⟩
 ·exact .inl h
 ·exact .inr ⟨b,h1,h2,h3.below hb h2⟩
theorem SelsAt.mono {w:World} {B B':Nat} {l:List SelD} {a:Option Addr} (h:SelsAt w B l a) (hb:B≤B'):SelsAt w B' l a:=by
 rcases h with h | ⟨b,h1,h2,h3⟩
 ·exact .inl h
 ·exact .inr ⟨b,h1,Nat.lt_of_lt_of_le h2 hb,h3⟩
theorem sels_len (l:List SelD):(l.flatMap SelD.cells).length=l.length * 4:=by
 induction l with
 | nil=>rfl
 | cons a r ih=>rw [List.flatMap_cons,List.length_append,ih,List.length_cons];show 4+_=_;omega
theorem sels_take:∀ (l:List SelD) (i:Nat) (hi:i<l.length),((l.flatMap SelD.cells).drop (i * 4)).take 4=l[i].cells
 | p::r,0,_=>by simp [SelD.cells]
 | p::r,i+1,h=>by
   rw [List.flatMap_cons,show (i+1) * 4=p.cells.length+i * 4 by simp [SelD.cells];omega,← List.drop_drop,List.drop_left]
   exact sels_take r i (by simpa using h)
theorem SelsAt.get {w:World} {B:Nat} {l:List SelD} {a:Option Addr} (h:SelsAt w B l a) (hl:l≠[]):∃ b,a=some ⟨b,0,none⟩∧b<B∧∀ i (hi:i<l.length),CellsAt w b (0+i * 4) l[i].cells:=by
 rcases h with h | ⟨b,h1,h2,h3⟩
 ·exact absurd h hl
 ·exact ⟨b,h1,h2,fun i hi=>by rw [Nat.zero_add];exact cellsOfRange (h3.part (sels_take l i hi))⟩
theorem sels_own {a:World} {base L:Nat} {t:TypeId} {s:Value} {l:List SelD} (h:a.ownsRow base t 4 s l.length (l.flatMap SelD.cells)) (hL:L≤base) :
 ∃ ad cp,s=.slice ad l.length cp∧Safe L none a (fun c=>SelsAt c c.heap.size l ad):=by
 obtain ⟨ad,cp,rfl⟩:=own_slice h
 refine ⟨ad,cp,rfl,fun c hk=>?_⟩
 have h2:=own_keep h hk hL
 rcases h2.2 with ⟨e,e2⟩ | ⟨g,cap,cur,e,hg,hh,hc,hm,hcs,htake⟩
 ·exact .inl (List.length_eq_zero_iff.1 e2)
 ·simp only [Value.slice.injEq] at e
  obtain ⟨rfl,_,_⟩:=e
  refine .inr ⟨g,rfl,(Array.getElem?_eq_some_iff.1 hh).1,fun j hj=>?_⟩
  have hj':j<l.length * 4:=by rw [← sels_len];exact hj
  have e:c.cell? ⟨g,0+j,none⟩=cur[0+j]?:=by simp [World.cell?,hh]
  rw [e,← htake,List.getElem?_take,if_pos hj',Nat.zero_add]
  simp
def PlnAt (w:World) (B N:Nat) (d:PlnD) (l:List FuncD) (ps:List Value):Prop:=∃ sa sc ics ucs bcs fa fc,ps=plnRow d.mode (.slice sa d.steps.length sc) d.name ics ucs bcs (.slice fa l.length fc)∧d.steps.length≤48∧d.name.size≤N∧l.length≤N ∧
 SelsAt w B d.steps sa∧ExprD.At w B N d.init ics∧ExprD.At w B N d.upd ucs∧ExprD.At w B N d.body bcs∧FuncsAt w B N l fa
theorem PlnAt.below {w w':World} {B N:Nat} {d:PlnD} {l:List FuncD} {ps:List Value} (h:PlnAt w B N d l ps) (hb:Below B w w'):PlnAt w' B N d l ps:=by
 obtain ⟨sa,sc,ics,ucs,bcs,fa,fc,h0,h1,h2,h3,h4,h5,h6,h7,h8⟩:=h
 exact ⟨sa,sc,ics,ucs,bcs,fa,fc,h0,h1,h2,h3,h4.below hb,h5.below hb,h6.below hb,h7.below hb,FuncsAt.below hb _ h8⟩
theorem PlnAt.mono {w:World} {B B' N:Nat} {d:PlnD} {l:List FuncD} {ps:List Value} (h:PlnAt w B N d l ps) (hb:B≤B'):PlnAt w B' N d l ps:=by
 obtain ⟨sa,sc,ics,ucs,bcs,fa,fc,h0,h1,h2,h3,h4,h5,h6,h7,h8⟩:=h
 exact ⟨sa,sc,ics,ucs,bcs,fa,fc,h0,h1,h2,h3,h4.mono hb,ExprD.At.mono hb _ h5,ExprD.At.mono hb _ h6,ExprD.At.mono hb _ h7,FuncsAt.mono hb _ h8⟩
theorem PlnAt.len {w:World} {B N:Nat} {d:PlnD} {l:List FuncD} {ps:List Value} (h:PlnAt w B N d l ps):ps.length=55:=by
 obtain ⟨sa,sc,ics,ucs,bcs,fa,fc,h0,h1,h2,h3,h4,h5,h6,h7,h8⟩:=h
 rw [h0]
 exact plnRow_len _ _ _ _ h5.len h6.len h7.len
theorem plnRow_one {m:Int} {sv:Value} {nm:ByteArray} {ics ucs bcs:List Value} {fv:Value} (hs:sv.oneCell'=true) (h1:∀ u∈ics,u.oneCell'=true) (h2:∀ u∈ucs,u.oneCell'=true) (h3:∀ u∈bcs,u.oneCell'=true) (hf:fv.oneCell'=true):∀ u∈plnRow m sv nm ics ucs bcs fv,u.oneCell'=true:=by
 intro u hu
 simp only [plnRow,List.mem_cons,List.mem_append,List.mem_nil_iff,or_false] at hu
 rcases hu with rfl | rfl | rfl | hu | hu | hu | rfl
 ·rfl
 ·exact hs
 ·rfl
 ·exact h1 u hu
 ·exact h2 u hu
 ·exact h3 u hu
 ·exact hf
theorem PlnAt.one {w:World} {B N:Nat} {d:PlnD} {l:List FuncD} {ps:List Value} (h:PlnAt w B N d l ps):∀ u∈ps,u.oneCell'=true:=by
 obtain ⟨sa,sc,ics,ucs,bcs,fa,fc,h0,h1,h2,h3,h4,h5,h6,h7,h8⟩:=h
 intro u hu
 rw [h0] at hu
 simp only [plnRow,List.mem_cons,List.mem_append,List.mem_nil_iff,or_false] at hu
 rcases hu with rfl | rfl | rfl | hu | hu | hu | rfl
 ·rfl
 ·rfl
 ·rfl
 ·exact h5.one u hu
 ·exact h6.one u hu
 ·exact h7.one u hu
 ·rfl
theorem sizeSEL:(Tryz.prog.info? 71).map (·.size)=some 4:=by kernel_rfl
theorem sizeSTP:(Tryz.prog.info? 69).map (·.size)=some 3:=by kernel_rfl
theorem sizePLN:(Tryz.prog.info? 40).map (·.size)=some 55:=by kernel_rfl
def zeroP:PlnD:=⟨0,[],⟨#[]⟩,zeroE,zeroE,zeroE⟩
def zeroEL:List Value:=[.int .i64 0,.string ⟨#[]⟩,.int .i64 0,.bool false,.bool false,.string ⟨#[]⟩,.int .i64 0,.int .i64 0,.int .i64 0,.int .i64 0,.int .i64 0,.string ⟨#[]⟩,.slice none 0 0,.slice none 0 0,.slice none 0 0,.slice none 0 0,.slice none 0 0]
theorem zeroE_at (w:World) (B N:Nat):ExprD.At w B N zeroE zeroEL:=by
 refine ⟨_,none,none,0,0,rfl,?_,zeroV_at w B N,trivial,trivial⟩
 simp [ExprD.Own,ExprD.op,ExprD.name,ExprD.args,ExprD.funcs,I64,ByteArray.size]
theorem identE_at (w:World) (B N:Nat):ExprD.At w B N identE (zeroEL.set 0 (.int .i64 1)):=by
 refine ⟨_,none,none,0,0,rfl,?_,zeroV_at w B N,trivial,trivial⟩
 simp [ExprD.Own,ExprD.op,ExprD.name,ExprD.args,ExprD.funcs,I64,ByteArray.size]
def zeroPL:List Value:=plnRow 0 (.slice none 0 0) ⟨#[]⟩ zeroEL zeroEL zeroEL (.slice none 0 0)
theorem zeroP_at (w:World) (B N:Nat):PlnAt w B N zeroP [] zeroPL :=
 ⟨none,0,zeroEL,zeroEL,zeroEL,none,0,rfl,by decide,by show (0:Nat)≤N;omega,by simp,.inl rfl,zeroE_at w B N,zeroE_at w B N,zeroE_at w B N,trivial⟩
theorem eqSTP (c:Bool) (k:ByteArray) (n:Int) (w:World):(Op.equalIn 9999 69 (.agg #[.bool c,.string k,.int .i64 n]) (.agg #[.bool c,.string k,.int .i64 n])).run Tryz.prog w=.ok true w:=by
 have u3:=Tryz.underlying3
 have a3:=Tryz.isAgg3
 have z3:=Tryz.sizeOf3
 have u4:=Tryz.underlying4
 have a4:=Tryz.isAgg4
 have z4:=Tryz.sizeOf4
 have u9:=Tryz.underlying9
 have a9:=Tryz.isAgg9
 have z9:=Tryz.sizeOf9
 have hS:Tryz.prog.underlying 69=some (.struct (Tryz.prog.fieldsOf 69)):=by kernel_rfl
 have hp:Tryz.prog.stoodInHeld 69=false:=by kernel_rfl
 rw [show (9999:Nat)=9998+1 from rfl,run_equalIn_agg w 9998 69 _ _ hS hp]
 simp only [Program.fieldsOf,Tryz.underlying69]
 go_simp
theorem eqSEL (s:SelD) (w:World):(Op.equalIn 10000 71 (.agg #[.bool s.each,.bool s.byIdx,.string s.key,.int .i64 s.index]) (.agg #[.bool s.each,.bool s.byIdx,.string s.key,.int .i64 s.index])).run Tryz.prog w=.ok true w:=by
 have u4:=Tryz.underlying4
 have a4:=Tryz.isAgg4
 have z4:=Tryz.sizeOf4
 have a5:=Tryz.isAgg69
 have z5:=Tryz.sizeOf69
 have hS:Tryz.prog.underlying 71=some (.struct (Tryz.prog.fieldsOf 71)):=by kernel_rfl
 have hp:Tryz.prog.stoodInHeld 71=false:=by kernel_rfl
 have hN:=eqSTP s.byIdx s.key s.index w
 rw [show (10000:Nat)=9999+1 from rfl,run_equalIn_agg w 9999 71 _ _ hS hp]
 simp only [Program.fieldsOf,Tryz.underlying71]
 go_simp
theorem guardSEL:Program.eqGuardType Tryz.prog Tryz.prog.depth 71=false:=by kernel_rfl
end Go.Proofs.YticpebgjbfanpaaGreatDoor
