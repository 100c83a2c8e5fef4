/- value.same: the heads agree; the induction. -/
import Derived.Test.YtmjfggadehkbjaaGreatDoorProg
import Derived.Test.YtmjfggadehkbjaaGreatDoorGA
import Derived.Test.YtmjfggadehkbjaaGreatDoorGB
import Derived.Test.YtmjfggadehkbjaaGreatDoorGC
import Derived.Test.YtmjfggadehkbjaaGreatDoorGD
import Derived.Test.YtmjfggadehkbjaaGreatDoorRow36
import Derived.Test.YtmjfggadehkbjaaGreatDoorXA
import Derived.Test.YtmjfggadehkbjaaGreatDoorXD
import Derived.Test.YtmjfggadehkbjaaGreatDoorXE
import Derived.Test.YtmjfggadehkbjaaGreatDoorXI
import Derived.Test.YtmjfggadehkbjaaGreatDoorXK
import Derived.Test.YtmjfggadehkbjaaGreatDoorAD
import Derived.Test.YtmjfggadehkbjaaGreatDoorAJ
import Derived.Laws.EntriesVeiled
namespace Go.Proofs.YtmjfggadehkbjaaGreatDoor
open Go.RowKit Stb
set_option maxRecDepth 100000 in
set_option maxHeartbeats 6400000 in
theorem same_ok {m:Nat} (v u:ValD) (w:World) (B N:Nat) (cs ds:List Value) (left:Int) (IH:EqvP m) (hm:(m:Int)+1≤left) (hleft:left≤65536) (h1:okC (m+1) v) (h2:okC (m+1) u) (hN:N≤4294967296) (hB:B≤w.heap.size) (hv:ValD.At w B N v cs) (hu:ValD.At w B N u ds) (b0:(v.kind==u.kind)=true) (b1:(v.bool==u.bool)=true) (b2:decB v.num u.num=true) (b3:timeB v.time u.time=true) (b4:(v.text.toList==u.text.toList)=true) (b5:(v.bytes==u.bytes)=true) :
 Calls Tryz.prog 111 #[.agg cs.toArray,.agg ds.toArray,.bool false,.int .i64 left] w (YnR (all2 (eqvD m) v.list u.list&&all2 (fldB (eqvD m)) (sortF v.fields) (sortF u.fields)) w):=by
 have HI:=Hd IH
 have O1:=Hd h1
 have O2:=Hd h2
 obtain ⟨ya,la,va,yc,lc,vc,hh⟩:=hv.has
 obtain ⟨yb,lb,vb,yd,ld,vd,hg⟩:=hu.has
 have HV:=Hd hv
 have HU:=Hd hu
 have HH:=Hd hh
 have HG:=Hd hg
 have hz1:=Hd (show (Tryz.prog.info? 30).map (·.size)=some cs.length by rw [hv.len];exact sizeV)
 have hz2:=Hd (show (Tryz.prog.info? 30).map (·.size)=some ds.length by rw [hu.len];exact sizeV)
 have D2:=duo_boxes w cs ds 30
 have D0:=Hd ((D2.later (belowBox _ (.cells #[.bool false] 4))).later (belowBox _ (.cells #[.int .i64 left] 3)))
 have hs2:((w.alloc (.cells cs.toArray 30)).alloc (.cells ds.toArray 30)).heap.size=w.heap.size+2:=by rw [World.size_alloc,World.size_alloc]
 have XB:=Hd (show CellX ((((w.alloc (.cells cs.toArray 30)).alloc (.cells ds.toArray 30)).alloc (.cells #[.bool false] 4)).alloc (.cells #[.int .i64 left] 3)) (w.heap.size+2) (.bool false) from by
  have h:CellX (((w.alloc (.cells cs.toArray 30)).alloc (.cells ds.toArray 30)).alloc (.cells #[.bool false] 4)) (w.heap.size+2) (.bool false):=by
   have h:=(RowT.new ((w.alloc (.cells cs.toArray 30)).alloc (.cells ds.toArray 30)) 4 [.bool false]).cell (j:=0) rfl
   rw [hs2] at h
   exact h
  exact h.below (belowBox _ _))
 have PB:=Hd (show CellX ((((w.alloc (.cells cs.toArray 30)).alloc (.cells ds.toArray 30)).alloc (.cells #[.bool false] 4)).alloc (.cells #[.int .i64 left] 3)) (w.heap.size+3) (.int .i64 left) from by
  have h:=(RowT.new (((w.alloc (.cells cs.toArray 30)).alloc (.cells ds.toArray 30)).alloc (.cells #[.bool false] 4)) 3 [.int .i64 left]).cell (j:=0) rfl
  rw [World.size_alloc,hs2] at h
  exact h)
 clear D2 hs2
 have ekind:=D0.out.one.get0 hh.kind
 have fkind:=D0.out.two.get0 hg.kind
 have ebool:=D0.out.one.get0 hh.bool
 have fbool:=D0.out.two.get0 hg.bool
 have eneg:=D0.out.one.get0 hh.neg
 have fneg:=D0.out.two.get0 hg.neg
 have edigits:=D0.out.one.get0 hh.digits
 have fdigits:=D0.out.two.get0 hg.digits
 have eexp:=D0.out.one.get0 hh.exp
 have fexp:=D0.out.two.get0 hg.exp
 have etkind:=D0.out.one.get0 hh.tkind
 have ftkind:=D0.out.two.get0 hg.tkind
 have eday:=D0.out.one.get0 hh.day
 have fday:=D0.out.two.get0 hg.day
 have enano:=D0.out.one.get0 hh.nano
 have fnano:=D0.out.two.get0 hg.nano
 have eoffset:=D0.out.one.get0 hh.offset
 have foffset:=D0.out.two.get0 hg.offset
 have etext:=D0.out.one.get0 hh.text
 have ftext:=D0.out.two.get0 hg.text
 have ebytes:=D0.out.one.get0 hh.bytes
 have fbytes:=D0.out.two.get0 hg.bytes
 have z0:(v.kind != u.kind)=false:=by have:=b0;revert this;unfold bne;intro h;rw [h];rfl
 have E1:=eqDEC v.num u.num
 have E2:=eqTIME v.time u.time
 have G1:=guardDEC
 have G2:=guardTIME
 rw [b2] at E1
 rw [b3] at E2
 have HB5:=Hd b5
 clear hh hg hv hu h1 h2 IH b0 b2 b3 b5
 obtain ⟨p,hp⟩:∃ p,v.bool=p:=⟨_,rfl⟩
 obtain ⟨q,hq0⟩:∃ q,u.bool=q:=⟨_,rfl⟩
 rw [hp] at ebool b1
 rw [hq0] at fbool b1
 clear hp hq0
 have hpq:p=q:=by rcases bool_eq2 b1 with ⟨rfl,rfl⟩ | ⟨rfl,rfl⟩<;>rfl
 subst hpq
 clear b1
 have hbb:(p != p)=false:=by cases p<;>rfl
 have hbe:(p==p)=true:=by cases p<;>rfl
 go_enter Tryz.func111,Tryz.ntmps111
 go_wp2_with fail
 refine (eqb_p v.bytes u.bytes ya yb yc yd B _ (by have:=O1.out.2.2.2.1.2;omega) (Nat.le_trans hB D0.out.below.size) (HH.out.atBytes.below (D0.out.below.mono hB)) (HG.out.atBytes.below (D0.out.below.mono hB))).mono ?_
 rintro e w1 ⟨rfl,hb⟩
 rw [HB5.out]
 have D1:=Hd (D0.out.later hb)
 have XB1:=Hd (XB.out.below hb)
 have PB1:=Hd (PB.out.below hb)
 have pI:_=_:=PB1.out
 have xI:_=_:=XB1.out
 have e12:=D1.out.one.get0 HH.out.fields
 have f12:=D1.out.two.get0 HG.out.fields
 clear hb ekind fkind ebool fbool eneg fneg edigits fdigits eexp fexp etkind ftkind eday fday enano fnano eoffset foffset etext ftext ebytes fbytes E1 E2 G1 G2 b4 hbb hbe z0 HB5 D0 XB PB
 go_wp2_with fail
 go_quiet (fail)
 obtain ⟨wt,hwt⟩:∃ wt,wt=w1.drewN nq:=⟨_,rfl⟩
 rw [← hwt]
 have hbt:Below w1.heap.size w1 wt:=by rw [hwt];exact drewNU _ _
 have DT:=Hd (D1.out.later hbt)
 have XT:=Hd (XB1.out.below hbt)
 have PT:=Hd (PB1.out.below hbt)
 have xI:_=_:=XT.out
 clear hwt hbt D1 XB1 PB1 pI e12 f12
 obtain ⟨lx,hlx⟩:∃ l,l=sortF v.fields:=⟨_,rfl⟩
 obtain ⟨ly,hly⟩:∃ l,l=sortF u.fields:=⟨_,rfl⟩
 have HN1:=Hd (show lx.length≤N by rw [hlx,sortF_len];exact HH.out.own.2.2.2.2.2.2.2.2.2.2)
 have OX:=Hd (show ∀ x∈lx,okC m x.2 from fun x hx=>O1.out.2.2.2.2.2.2 x ((sortF_perm _).mem_iff.1 (hlx ▸ hx)))
 have OY:=Hd (show ∀ x∈ly,okC m x.2 from fun x hx=>O2.out.2.2.2.2.2.2 x ((sortF_perm _).mem_iff.1 (hly ▸ hx)))
 have HLX:=Hd hlx
 have HLY:=Hd hly
 rw [← hlx,← hly]
 clear hlx hly
 go_wp2_with fail
 clear xI
 refine wp_region_held_drew (S:=fun q=>Below wt.heap.size wt q) (by kernel_rfl) (drewB _) (fun hHeld=>?_)
 refine' tk 0 (.agg cs.toArray) rfl rfl (yieldsIf_load_mid (by kernel_rfl) 30 _ rfl (w.heap.size) 0 rfl cs _ (fun q hq=>(DT.out.later hq).one.range) Tryz.underlying30 rfl hz1.out) hHeld ?_
 simp only [sq1,sq0]
 refine' tk 2 (.agg ds.toArray) rfl rfl (yieldsIf_load_mid (by kernel_rfl) 30 _ rfl (w.heap.size+1) 0 rfl ds _ (fun q hq=>(DT.out.later hq).two.range) Tryz.underlying30 rfl hz2.out) hHeld ?_
 simp only [sq1,sq0]
 refine rd1 1 rfl (fun K hK=>?_)
 rw [if_pos (by rfl)]
 go_simp
 refine (sorted_p v cs B N _ hN (Nat.le_trans hB (Nat.le_trans DT.out.below.size hHeld.size)) (HV.out.below ((belowThen DT.out.below hHeld).mono hB)) O1.out.2.2.2.2.1).mono ?_
 rintro e uC0 ⟨a0,k0,rfl,hbC,hfC⟩
 have HS0:=Hd hfC
 refine hK.out _ _ (belowThen hHeld hbC) (fun hHeld0=>?_)
 clear hK K hbC hfC hHeld
 have hHeld:=hHeld0
 clear hHeld0
 refine rd1 3 rfl (fun K hK=>?_)
 rw [if_pos (by rfl)]
 go_simp
 refine (sorted_p u ds B N _ hN (Nat.le_trans hB (Nat.le_trans DT.out.below.size hHeld.size)) (HU.out.below ((belowThen DT.out.below hHeld).mono hB)) O2.out.2.2.2.2.1).mono ?_
 rintro e uC1 ⟨a1,k1,rfl,hbC,hfC⟩
 have HC1:=Hd hbC
 have HS1:=Hd hfC
 refine hK.out _ _ (belowThen hHeld hbC) (fun hHeld1=>?_)
 clear hK K hbC hfC hHeld
 have hHeld:=hHeld1
 clear hHeld1
 refine rd1 4 rfl (fun K hK=>?_)
 rw [if_pos (by rfl)]
 go_simp
 refine hK.out _ _ hHeld (fun hHeldx=>?_)
 clear hK K hHeldx
 refine rd1 5 rfl (fun K hK=>?_)
 rw [if_pos (by rfl)]
 go_simp
 refine hK.out _ _ hHeld (fun hHeldx=>?_)
 clear hK K hHeldx
 refine wpAnyH_done (by kernel_rfl) ?_ _
 have D2:=Hd (DT.out.later hHeld)
 have F0:=Hd ((HS0.out.below HC1.out).mono HC1.out.size)
 have F1:=HS1
 have X2:=Hd (XT.out.below hHeld)
 have P2:=Hd (PT.out.below hHeld)
 clear hHeld HS0 HS1 HC1 DT XT PT
 rw [show (v.fields.length:Nat)=lx.length by rw [HLX.out,sortF_len],show (u.fields.length:Nat)=ly.length by rw [HLY.out,sortF_len]]
 rw [← HLX.out] at F0
 rw [← HLY.out] at F1
 have HFN:=RowT.new uC1 52 [.nilFunc]
 have q0:=HFN.cell (j:=0) rfl
 have z9:=HFN.frozen 0
 have hbs:Below uC1.heap.size uC1 (uC1.alloc (.cells #[oneF (w.heap.size+1+1) (w.heap.size+1+1+1)] 52)):=belowBox _ _
 have D3:=Hd (D2.out.later hbs)
 have X3:=Hd (X2.out.below hbs)
 have P3:=Hd (P2.out.below hbs)
 have O3:=Hd (show CellX (uC1.alloc (.cells #[oneF (w.heap.size+1+1) (w.heap.size+1+1+1)] 52)) uC1.heap.size (oneF (w.heap.size+1+1) (w.heap.size+1+1+1)) from (RowT.new uC1 52 [oneF (w.heap.size+1+1) (w.heap.size+1+1+1)]).cell (j:=0) rfl)
 have HB3:=Hd hbs
 have e11:_=_:=D3.out.one.get0 HH.out.list
 have f11:_=_:=D3.out.two.get0 HG.out.list
 have o11:_=_:=O3.out
 unfold oneF at e11 f11 o11
 clear HFN hbs
 go_wp2_with fail
 clear q0 z9 e11 f11
 have hll:v.list.length≤N:=HH.out.own.2.2.2.2.2.2.2.2.2.1
 refine (eqfv_p HI.out v.list u.list la lb lc ld B N (w.heap.size+1+1) (w.heap.size+1+1+1) left _ hN hll (Nat.le_trans hB D3.out.below.size) hm hleft O1.out.2.2.2.2.2.1 O2.out.2.2.2.2.2.1 X3.out P3.out (HH.out.atList.below (D3.out.below.mono hB)) (HG.out.atList.below (D3.out.below.mono hB))).mono ?_
 rintro e w5 ⟨rfl,hb⟩
 have X5:=Hd (X3.out.below hb)
 have P5:=Hd (P3.out.below hb)
 have O5:=Hd (O3.out.below hb)
 have HB5:=Hd (belowThen D3.out.below hb)
 have HBC:=Hd (belowThen HB3.out hb)
 clear hb X3 P3 O3 D3 HB3 o11
 obtain ⟨s,hs⟩:∃ s,all2 (eqvD m) v.list u.list=s:=⟨_,rfl⟩
 rw [hs]
 have HS:=Hd hs
 clear hs
 cases s with
 | false =>
   go_wp2_with fail
   go_ret
   exact yn_ret (by rw [HS.out];rfl) HB5.out
 | true =>
   go_wp2_with fail
   refine (eqff_p HI.out lx ly a0 a1 k0 k1 uC1.heap.size N (w.heap.size+1+1) (w.heap.size+1+1+1) uC1.heap.size left w5 hN HN1.out HBC.out.size hm hleft OX.out OY.out X5.out P5.out O5.out (F0.out.below HBC.out) (F1.out.below HBC.out)).mono ?_
   rintro e w6 ⟨rfl,hb⟩
   have HB6:=Hd (belowThen HB5.out hb)
   clear hb
   go_wp2_with fail
   go_ret
   exact yn_ret (by rw [HS.out,Bool.true_and,← HLX.out,← HLY.out]) HB6.out
theorem same_all:∀ m,EqvP m
 | 0=>fun v u w B N cs ds left _ _ h1=>h1.elim
 | m+1=>fun v u w B N cs ds left hm hleft h1 h2 hN hB hv hu=>by
   have hm':(m:Int)+1≤left:=by omega
   unfold eqvD headB
   cases b0:(v.kind==u.kind) with
   | false=>exact same_no0 v u w B N cs ds left h1 h2 hN hB hv hu b0
   | true =>
   cases b1:(v.bool==u.bool) with
   | false=>exact same_no1 v u w B N cs ds left h1 h2 hN hB hv hu b0 b1
   | true =>
   cases b2:decB v.num u.num with
   | false=>exact same_no2 v u w B N cs ds left h1 h2 hN hB hv hu b0 b1 b2
   | true =>
   cases b3:timeB v.time u.time with
   | false=>exact same_no3 v u w B N cs ds left h1 h2 hN hB hv hu b0 b1 b2 b3
   | true =>
   cases b4:(v.text.toList==u.text.toList) with
   | false=>exact same_no4 v u w B N cs ds left h1 h2 hN hB hv hu b0 b1 b2 b3 b4
   | true =>
   cases b5:(v.bytes==u.bytes) with
   | false=>exact same_no5 v u w B N cs ds left h1 h2 hN hB hv hu b0 b1 b2 b3 b4 b5
   | true=>exact same_ok v u w B N cs ds left (same_all m) hm' hleft h1 h2 hN hB hv hu b0 b1 b2 b3 b4 b5
end Go.Proofs.YtmjfggadehkbjaaGreatDoor

/- The elements of a list that are not equal to one of another list: value.Equal, slices.ContainsFunc. -/
namespace Go.Proofs.YtmjfggadehkbjaaGreatDoor
open Go.RowKit Stb
set_option maxRecDepth 100000 in
theorem equal_p (m:Nat) (v u:ValD) (w:World) (B N:Nat) (cs ds:List Value) (hm:m≤65536) (h1:okC m v) (h2:okC m u) (hN:N≤4294967296) (hB:B≤w.heap.size) (hv:ValD.At w B N v cs) (hu:ValD.At w B N u ds) :
 Calls Tryz.prog 60 #[.agg cs.toArray,.agg ds.toArray] w (YnR (eqvD m v u) w):=by
 have D0:=Hd (duo_boxes w cs ds 30)
 have hl1:=Hd (show (Tryz.prog.info? 30).map (·.size)=some cs.length by rw [hv.len];exact sizeV)
 have hl2:=Hd (show (Tryz.prog.info? 30).map (·.size)=some ds.length by rw [hu.len];exact sizeV)
 have HR:=Hd (same_all m v u _ B N cs ds 65536 (by omega) (by omega) h1 h2 hN (Nat.le_trans hB D0.out.below.size) (hv.below (D0.out.below.mono hB)) (hu.below (D0.out.below.mono hB)))
 clear hv hu h1 h2
 go_enter Tryz.func60,Tryz.ntmps60
 go_wp2_with (first
  | ((with_reducible show wpList _ _ _ (⟨some 5,_,_,_,_,_⟩::_) _ _);refine wpList_load_mid rfl 30 _ rfl w.heap.size 0 rfl cs _ D0.out.one.range Tryz.underlying30 rfl hl1.out ?_)
  | ((with_reducible show wpList _ _ _ (⟨some 6,_,_,_,_,_⟩::_) _ _);refine wpList_load_mid rfl 30 _ rfl (w.heap.size+1) 0 rfl ds _ D0.out.two.range Tryz.underlying30 rfl hl2.out ?_))
 refine HR.out.mono ?_
 rintro e w1 ⟨rfl,hb⟩
 have HB1:=Hd (belowThen D0.out.below hb)
 clear hb
 go_wp2_with fail
 go_ret
 exact yn_ret rfl HB1.out
set_option maxRecDepth 100000 in
theorem with1_p (m:Nat) (v u:ValD) (w:World) (B N xb:Nat) (cs ds:List Value) (hm:m≤65536) (h1:okC m v) (h2:okC m u) (hN:N≤4294967296) (hB:B≤w.heap.size) (hv:ValD.At w B N v cs) (hu:ValD.At w B N u ds) (hx:CellsAt w xb 0 cs) (hxb:xb<w.heap.size) :
 Calls Tryz.prog 59 #[.agg ds.toArray,.pointer (some ⟨xb,0,none⟩)] w (YnR (eqvD m v u) w):=by
 have H0:=Hd (belowBox w (.cells ds.toArray 30))
 have R0:=Hd (hx.below H0.out hxb)
 have R1:=Hd (box_at w ds 30)
 have hl1:=Hd (show (Tryz.prog.info? 30).map (·.size)=some cs.length by rw [hv.len];exact sizeV)
 have hl2:=Hd (show (Tryz.prog.info? 30).map (·.size)=some ds.length by rw [hu.len];exact sizeV)
 have HR:=Hd (equal_p m v u _ B N cs ds hm h1 h2 hN (Nat.le_trans hB H0.out.size) (hv.below (H0.out.mono hB)) (hu.below (H0.out.mono hB)))
 clear hv hu h1 h2 hx
 go_enter Tryz.func59,Tryz.ntmps59
 go_wp2_with (first
  | ((with_reducible show wpList _ _ _ (⟨some 4,_,_,_,_,_⟩::_) _ _);refine wpList_load_mid rfl 30 _ rfl xb 0 rfl cs _ R0.out.range Tryz.underlying30 rfl hl1.out ?_)
  | ((with_reducible show wpList _ _ _ (⟨some 5,_,_,_,_,_⟩::_) _ _);refine wpList_load_mid rfl 30 _ rfl w.heap.size 0 rfl ds _ R1.out.range Tryz.underlying30 rfl hl2.out ?_))
 refine HR.out.mono ?_
 rintro e w1 ⟨rfl,hb⟩
 have HB1:=Hd (belowThen H0.out hb)
 clear hb
 go_wp2_with fail
 go_ret
 exact yn_ret rfl HB1.out
def IdfR (b:Bool) (w:World) (e:Ending) (w':World):Prop:=∃ z:Int,e=.returned (.int .i64 z)∧decide (0≤z)=b∧Below w.heap.size w w'
theorem idf_ret {b:Bool} {z:Int} {w w':World} (h:decide (0≤z)=b) (hb:Below w.heap.size w w'):IdfR b w (.returned (.int .i64 z)) w':=⟨z,rfl,h,hb⟩
theorem any_no {α:Type} {P:α→Bool} {l:List α} (h:∀ j (hj:j<l.length),P l[j]=false):l.any P=false:=by
 rw [List.any_eq_false]
 intro x hx
 obtain ⟨j,hj,rfl⟩:=List.getElem_of_mem hx
 rw [h j hj];decide
theorem any_yes {α:Type} {P:α→Bool} {l:List α} {j:Nat} (hj:j<l.length) (h:P l[j]=true):l.any P=true:=List.any_eq_true.2 ⟨_,List.getElem_mem hj,h⟩
set_option maxRecDepth 100000 in
set_option maxHeartbeats 3200000 in
theorem idf_p (m:Nat) (x:ValD) (l:List ValD) (la:Option Addr) (lc:Nat) (w:World) (B N xb:Nat) (cs:List Value) (hm:m≤65536) (h1:okC m x) (h2:∀ y∈l,okC m y) (hN:N≤4294967296) (hll:l.length≤N) (hB:B≤w.heap.size) (hv:ValD.At w B N x cs) (hl:ValsAt w B N l la) (hx:CellsAt w xb 0 cs) (hxb:xb<w.heap.size) :
 Calls Tryz.prog 110 #[.slice la l.length lc,.func (.func 59) #[] #[.pointer (some ⟨xb,0,none⟩)]] w (IdfR (l.any (eqvD m x)) w):=by
 have HA:=Hd hl
 have H2:=Hd h2
 have H1:=Hd h1
 have HV:=Hd hv
 have HX:=Hd hx
 obtain ⟨P,hP⟩:∃ P,P=eqvD m x:=⟨_,rfl⟩
 rw [← hP]
 have HP:=Hd hP
 clear hl h1 h2 hv hx hP
 go_enter Tryz.func110,Tryz.ntmps110
 go_wp2_with fail
 go_loopw [8] (fun i wr=>∃ k:Nat,i=.int .i64 k∧k≤l.length∧Hid (Below w.heap.size w wr)∧Hid (∀ j (hj:j<l.length),j<k→P l[j]=false)) (fun i _=>l.length-(intOf i).toNat)
 case atStart=>exact ⟨0,rfl,Nat.zero_le _,Hd (Below.refl _ _),Hd (fun j hj h=>by omega)⟩
 case round =>
  obtain ⟨wa,hwa⟩:∃ wa,wa=wr:=⟨_,rfl⟩
  subst wr
  obtain ⟨k,rfl,hk,HB,HN⟩:=hrel
  by_cases hlt:k<l.length
  case neg =>
   have HR:=Hd (any_no (P:=P) (l:=l) (fun j hj=>HN.out j hj (by omega)))
   go_wp2_with fail
   go_ret
   exact idf_ret (by rw [HR.out];rfl) HB.out
  obtain ⟨b0,o0,rfl,hb0,hg0⟩:=HA.out.get (by intro h;rw [h] at hlt;simp at hlt)
  obtain ⟨c0,hc0,hv0⟩:=hg0 k hlt
  have C0:=Hd (hc0.below (HB.out.mono hB) hb0)
  have hz0:=Hd (show (Tryz.prog.info? 30).map (·.size)=some c0.length by rw [hv0.len];exact sizeV)
  have V0:=Hd hv0
  obtain ⟨s,hs⟩:∃ s,s=P l[k]:=⟨_,rfl⟩
  have HS:=Hd hs
  rw [HP.out] at hs
  have HS2:=Hd hs
  clear hg0 hc0 hv0 hs
  go_wp2_with ((with_reducible show wpList _ _ _ (⟨some 15,_,_,_,_,_⟩::_) _ _);refine wpList_load_mid rfl 30 _ rfl b0 (o0+k * 13) rfl c0 _ C0.out.range Tryz.underlying30 rfl hz0.out ?_)
  refine (with1_p m x l[k] _ B N xb cs c0 hm H1.out (H2.out _ (List.getElem_mem hlt)) hN (Nat.le_trans hB HB.out.size) (HV.out.below (HB.out.mono hB)) (V0.out.below (HB.out.mono hB)) (HX.out.below HB.out hxb) (Nat.lt_of_lt_of_le hxb HB.out.size)).mono ?_
  rintro e w2 ⟨rfl,hb⟩
  rw [← HS2.out]
  have HB2:=Hd (belowThen HB.out hb)
  clear hb
  cases s with
  | true =>
    have HR:=Hd (any_yes hlt HS.out.symm)
    go_wp2_with fail
    go_ret
    exact idf_ret (by rw [HR.out];simp) HB2.out
  | false =>
    have HN2:=Hd (show ∀ j (hj:j<l.length),j<k+1→P l[j]=false from fun j hj h=>by
     by_cases he:j=k
     ·subst he;exact HS.out.symm
     ·exact HN.out j hj (by omega))
    go_wp2_with fail
    go_roundw
    case rel=>exact ⟨k+1,by go_num,by omega,HB2,HN2⟩
    case measure=>simp [intOf];omega
set_option maxRecDepth 100000 in
theorem ctf_p (m:Nat) (x:ValD) (l:List ValD) (la:Option Addr) (lc:Nat) (w:World) (B N xb:Nat) (cs:List Value) (hm:m≤65536) (h1:okC m x) (h2:∀ y∈l,okC m y) (hN:N≤4294967296) (hll:l.length≤N) (hB:B≤w.heap.size) (hv:ValD.At w B N x cs) (hl:ValsAt w B N l la) (hx:CellsAt w xb 0 cs) (hxb:xb<w.heap.size) :
 Calls Tryz.prog 58 #[.slice la l.length lc,.func (.func 59) #[] #[.pointer (some ⟨xb,0,none⟩)]] w (YnR (l.any (eqvD m x)) w):=by
 have HR:=Hd (idf_p m x l la lc w B N xb cs hm h1 h2 hN hll hB hv hl hx hxb)
 clear h1 h2 hv hl hx
 go_enter Tryz.func58,Tryz.ntmps58
 go_wp2_with fail
 refine HR.out.mono ?_
 rintro e w1 ⟨z,rfl,hz,hb⟩
 have HZ:=Hd hz
 have HB1:=Hd hb
 clear hz hb
 go_wp2_with fail
 go_ret
 exact yn_ret HZ.out.symm HB1.out
end Go.Proofs.YtmjfggadehkbjaaGreatDoor

/- builtin.without: the elements of a list that are not equal to one of another list. -/
namespace Go.Proofs.YtmjfggadehkbjaaGreatDoor
open Go.RowKit Stb
def withoutL (m:Nat) (a b:List ValD):List ValD:=a.filter fun x=>!(b.any (eqvD m x))
theorem withoutL_take {m:Nat} {a b:List ValD} {k:Nat} (h:k<a.length):withoutL m (a.take (k+1)) b=if b.any (eqvD m a[k]) then withoutL m (a.take k) b else withoutL m (a.take k) b++[a[k]]:=by
 unfold withoutL
 rw [List.take_succ_eq_append_getElem h,List.filter_append]
 cases hq:b.any (eqvD m a[k])<;>simp only [List.filter_cons,List.filter_nil,hq]<;>simp
theorem withoutL_len {m:Nat} {a b:List ValD} (k:Nat):(withoutL m (a.take k) b).length≤a.length:=by
 unfold withoutL
 exact Nat.le_trans (List.length_filter_le _ _) (by rw [List.length_take];omega)
theorem withoutL_mem {m:Nat} {a b:List ValD}:∀ x∈withoutL m a b,x∈a:=fun _ hx=>(List.mem_filter.1 hx).1
theorem wp_rowsV {o:Oper} {a:Act} {w:World} {K:Act→World→Prop} {Q:Exit→Act→World→Prop} (rows:List (List Value)) (fl:List Value) (hfl:rows.flatten=fl) (len:Nat) (parts:Array (Nat×Operand)) (ho:o.op=.buildSlice 27 len parts)
 (hlen:rows.length=len) (hpos:0<len) (hle:len≤1000) (h14:∀ r∈rows,r.length=13) (hp:(parts.map fun (i,x)=>(i,a.eval x)).toList=((rows.map fun r=>Value.agg r.toArray).zipIdx 0).map fun x=>(x.2,x.1))
 (h:K (a.put o.dst (.slice (some ⟨w.heap.size,0,none⟩) len len)) (w.alloc (.cells fl.toArray 30))):o.wp Tryz.prog a w K Q:=by
 subst hfl
 obtain ⟨z,hz,hi⟩:=infoV
 cases hie:Tryz.prog.info? 30 with
 | none=>rw [hie] at hi;cases hi
 | some ie =>
   rw [hie] at hi
   simp only [Option.map_some,Option.some.injEq,Prod.mk.injEq] at hi
   obtain ⟨h1,h2,_⟩:=hi
   refine wp_buildSlice 27 30 len parts ho rows.flatten.toArray ie (.agg z) Tryz.underlying27 hie h1 (by rw [h2];omega) (by rw [h2];omega) ?_ h
   have e:=Great.fill_whole (s:=13) (by decide) (rows.map fun r=>Value.agg r.toArray) ((Array.range (len * 13)).map ((Value.agg z).cells[· % (Value.agg z).cells.size]!)) (fun v hv=>by
    obtain ⟨r,hr,rfl⟩:=List.mem_map.1 hv
    show r.toArray.size=13
    rw [List.size_toArray]
    exact h14 r hr) (by simp [hlen])
   rw [flat_agg] at e
   rw [hp,h2]
   exact e
theorem wpList_rowsV {ops:Array Oper} {rest:List Oper} {o:Oper} {a:Act} {w:World} {Q:Exit→Act→World→Prop} (hg:o.guard=none) (rows:List (List Value)) (fl:List Value) (hfl:rows.flatten=fl) (len:Nat) (parts:Array (Nat×Operand)) (ho:o.op=.buildSlice 27 len parts)
 (hlen:rows.length=len) (hpos:0<len) (hle:len≤1000) (h14:∀ r∈rows,r.length=13) (hp:(parts.map fun (i,x)=>(i,a.eval x)).toList=((rows.map fun r=>Value.agg r.toArray).zipIdx 0).map fun x=>(x.2,x.1))
 (h:wpList Tryz.prog ops Q rest (a.put o.dst (.slice (some ⟨w.heap.size,0,none⟩) len len)) (w.alloc (.cells fl.toArray 30))):wpList Tryz.prog ops Q (o::rest) a w :=
 wpList_plain hg fun _ hK=>wp_rowsV rows fl hfl len parts ho hlen hpos hle h14 hp (hK _ _ h)
theorem NewsV.one {w:World} {B N:Nat} {x:ValD} {cs:List Value} (h:ValD.At w B N x cs):NewsV w B N [x] cs:=⟨by rw [h.len];rfl,fun i hi=>by
 have:i=0:=by simp at hi;omega
 subst this
 rw [Nat.zero_mul,List.drop_zero,List.take_of_length_le (by rw [h.len];exact Nat.le_refl _)]
 exact h⟩
set_option maxRecDepth 100000 in
set_option maxHeartbeats 6400000 in
theorem without_p (m:Nat) (a b:List ValD) (la lb:Option Addr) (lc ld:Nat) (w:World) (B Bo N:Nat) (hm:m≤65536) (oa:∀ x∈a,okC m x) (ob:∀ x∈b,okC m x) (hf:∀ x∈a,fitsV 59 x) (hN:N≤4294967296) (hla:a.length≤N) (hlb:b.length≤N) (hB:B≤w.heap.size) (hBo:Bo≤w.heap.size) (ha:ValsAt w B N a la) (hb:ValsAt w B N b lb) :
 Calls Tryz.prog 25 #[.slice la a.length lc,.slice lb b.length ld] w (ResR Bo N (resD (lisD (withoutL m a b))) w):=by
 obtain ⟨z0,hz0s,hinfo⟩:=infoV
 obtain ⟨i0,hi,hz0,hz1,hz2⟩:=info_parts hinfo
 have HI:=Hd hi
 have HZ0:=Hd hz0
 have HZ1:=Hd hz1
 have HZ2:=Hd hz2
 have HZS:=Hd hz0s
 have HA:=Hd ha
 have HBV:=Hd hb
 have OA:=Hd oa
 have OB:=Hd ob
 have HFT:=Hd hf
 have H0:=Hd (belowBox w (.cells zeroV 30))
 have Z0:=Hd (show RowAt (w.alloc (.cells zeroV 30)) w.heap.size zeroV.toList from heap_alloc_new w (.cells zeroV 30))
 clear hi hz0 hz1 hz2 hz0s hinfo ha hb oa ob hf
 go_enter Tryz.func25,Tryz.ntmps25
 go_wp2_with fail
 go_simp
 go_loopw [6,11] (fun v i wr=>∃ (k:Nat) (out:List ValD) (xs:List Value),k≤a.length∧i=.int .i64 k∧Hid (out=withoutL m (a.take k) b)∧wr.ownsRow (w.heap.size+1) 30 13 v out.length xs∧Hid (NewsV w B N out xs)∧Hid (Below w.heap.size w wr)∧Hid (RowAt wr w.heap.size zeroV.toList)∧Hid (w.heap.size+1≤wr.heap.size)) (fun _ i _=>a.length-(intOf i).toNat)
 case atStart=>exact ⟨0,[],[],by omega,rfl,Hd rfl,World.ownsRow_nil _ _ _ _,Hd (NewsV.nil _ _ _),H0,Z0,Hd (by rw [World.size_alloc];omega)⟩
 case round =>
  obtain ⟨wa,hwa⟩:∃ wa,wa=wr:=⟨_,rfl⟩
  subst wr
  obtain ⟨k,out,xs,hk,rfl,HOUT,hown,HNV,HB,HZ,HSZ⟩:=hrel
  have HO:=Hd hown
  have HOL:=Hd (show out.length≤a.length by rw [HOUT.out];exact withoutL_len k)
  clear hown H0 Z0
  by_cases hlt:k<a.length
  ·obtain ⟨b0,o0,rfl,hb0,hg0⟩:=HA.out.get (by intro h;rw [h] at hlt;simp at hlt)
   obtain ⟨c0,hc0,hv0⟩:=hg0 k hlt
   have C0:=Hd (hc0.below (HB.out.mono hB) hb0)
   have hz0:=Hd (show (Tryz.prog.info? 30).map (·.size)=some c0.length by rw [hv0.len];exact sizeV)
   have hz1:=Hd (show (Tryz.prog.info? 30).map (·.size)=some c0.toArray.size by rw [List.size_toArray,hv0.len];exact sizeV)
   have h13:=Hd (show 13=c0.toArray.size by rw [List.size_toArray,hv0.len])
   have n0:=Hd (Go.all_oneCell_toArray hv0.oneCell)
   have V1:=Hd hv0.oneCell
   have V0:=Hd hv0
   have HBX:=Hd (belowThen HB.out (belowBox wa (.cells c0.toArray 30)))
   have RX:=Hd (box_at wa c0 30)
   have HST:=Hd (withoutL_take (m:=m) (b:=b) hlt)
   obtain ⟨s,hs⟩:∃ s,s=b.any (eqvD m a[k]):=⟨_,rfl⟩
   rw [← hs] at HST
   have HS:=Hd hs
   clear hg0 hc0 hv0 hs
   go_wp2_with (first
    | ((with_reducible show wpList _ _ _ (⟨some 14,_,_,_,_,_⟩::_) _ _);refine wpList_load_mid rfl 30 _ rfl b0 (o0+k * 13) rfl c0 _ C0.out.range Tryz.underlying30 rfl hz0.out ?_)
    | ((with_reducible show wpList _ _ _ (⟨none,.store 30 (.tmp 8) (.tmp 14),_,_,_,_⟩::_) _ _);refine wpList_store_new rfl 30 _ _ rfl _ c0.toArray rfl rfl hz1.out h13.out n0.out ?_))
   refine (ctf_p m a[k] b lb ld _ B N wa.heap.size c0 hm (OA.out _ (List.getElem_mem hlt)) OB.out hN hlb (Nat.le_trans hB HBX.out.size) (V0.out.below (HBX.out.mono hB)) (HBV.out.below (HBX.out.mono hB)) RX.out (by rw [World.size_alloc];omega)).mono ?_
   rintro e w2 ⟨rfl,hb⟩
   rw [← HS.out]
   have HB2:=Hd (belowThen HBX.out hb)
   have HX2:=Hd (RX.out.below hb (by rw [World.size_alloc];omega))
   have HBA:=Hd (show Below wa.heap.size wa w2 from belowThen (belowBox wa _) hb)
   have HO2:=Hd (own_same HO.out (fun q _ hq=>HBA.out.block q hq))
   have HZ2':=Hd (HZ.out.below HBA.out (by have:=HSZ.out;omega))
   have HS2:=Hd (Nat.le_trans HSZ.out HBA.out.size)
   clear hb
   cases s with
   | true =>
     go_wp2_with fail
     go_roundw
     case rel=>exact ⟨k+1,out,xs,by omega,by go_num,Hd (by rw [HST.out];simp;exact HOUT.out),HO2.out,HNV,HB2,HZ2',HS2⟩
     case measure=>simp [intOf];omega
   | false =>
     go_wp2_with (first
      | ((with_reducible show wpList _ _ _ (⟨some 20,_,_,_,_,_⟩::_) _ _);refine wpList_load_mid rfl 30 _ rfl wa.heap.size 0 rfl c0 _ HX2.out.range Tryz.underlying30 rfl hz0.out ?_)
      | ((with_reducible show wpList _ _ _ (⟨some 21,_,_,_,_,_⟩::_) _ _);refine wpList_rowsV rfl [c0] c0 (by simp) 1 _ rfl rfl (by decide) (by decide) (by intro r hr;simp at hr;rw [hr];exact V0.out.len) (by rw [List.map_toArray];rfl) ?_)
      | ((with_reducible show wpList _ _ _ (⟨some 22,_,_,_,_,_⟩::_) _ _);refine wpList_append_own _ rfl _ _ 27 rfl (w.heap.size+1) 30 i0 (.agg z0) 13 168 Tryz.underlying27 HI.out HZ0.out HZ1.out HZ2.out HZS.out (by decide) _ _ _ rfl (HO2.out.alloc _) ⟨w2.heap.size,0,none⟩ 1 1 c0 rfl (by rw [V0.out.len]) (new_cells w2 c0 _) V1.out ?c3 ?c4 ?c5 ?_))
     case c3=>have:=HOL.out;unfold maxLen;omega
     case c4=>have:=HOL.out;omega
     case c5=>have:=HS2.out;rw [World.size_alloc];omega
     intro v3 w3 hown3 hgrow3 _
     have HBL:=Hd (show Below (w.heap.size+1) w2 w3 from (belowBox' w2 _ HS2.out).grown hgrow3 (by have:=HS2.out;rw [World.size_alloc];omega) (fun q hq=>(HO2.out.lt q hq).1))
     have HB4:=Hd (HB2.out.trans (HBL.out.mono (by omega)))
     have HZ4:=Hd (HZ2'.out.below HBL.out (by omega))
     have HS4:=Hd (Nat.le_trans HS2.out HBL.out.size)
     have HO4:=Hd (show w3.ownsRow (w.heap.size+1) 30 13 v3 (out++[a[k]]).length (xs++c0) by rw [List.length_append];exact hown3)
     clear hown3 hgrow3
     go_wp2_with fail
     go_roundw
     case rel=>exact ⟨k+1,out++[a[k]],xs++c0,by omega,by go_num,Hd (by rw [HST.out];simp;exact HOUT.out),HO4.out,Hd (HNV.out.cat (NewsV.one V0.out)),HB4,HZ4,HS4⟩
     case measure=>simp [intOf];omega
  ·have hke:k=a.length:=by omega
   have HW:=Hd (show withoutL m a b=out by rw [HOUT.out,hke,List.take_length])
   have HFO:=Hd (show ∀ x∈out,fitsV 59 x from fun x hx=>HFT.out x (withoutL_mem x (by rw [HW.out];exact hx)))
   obtain ⟨a2,c2,rfl,hv⟩:=vals_news HO.out rfl (Nat.le_refl _) ((HNV.out.below (HB.out.mono hB)).mono (Nat.le_trans hB HB.out.size))
   have HVV:=Hd hv
   clear hv hke
   go_wp2_with fail
   refine (list_prog_b 59 (by omega) out HFO.out a2 c2 wa wa.heap.size Bo N hN (by have:=HOL.out;omega) (Nat.le_refl _) (Nat.le_trans hBo HB.out.size) HVV.out).mono ?_
   rintro e wE ⟨cs,rfl,hsol,hb⟩
   obtain ⟨r,hr⟩:∃ r,r=resD (lisD out):=⟨_,rfl⟩
   rw [← hr] at hsol ⊢
   have HQ2:=Hd (show resD (lisD (withoutL m a b))=r by rw [HW.out,hr])
   have hlen:=hsol.here.len
   have AT:=Hd hsol.here
   have S1:=Hd hsol
   have HBE:=Hd (HB.out.trans (hb.mono HB.out.size))
   have ZE:=Hd (HZ.out.below hb (by have:=HSZ.out;omega))
   clear hsol hb hr
   obtain ⟨rv,rk⟩:=r
   go_wp2_with ((with_reducible show wpList _ _ _ (⟨none,.store 30 (.tmp 4) _,_,_,_,_⟩::_) _ _);refine wpList_store_row rfl 30 _ _ rfl w.heap.size cs.toArray rfl rfl 30 zeroV ZE.out (row_size hlen) (row_zero hlen) (row_ones AT.out) ?_)
   refine bodyPost_ret (results_cell_row2 rfl _ _ w.heap.size 30 _ (0,0) _ rfl (setRow_heap _ _ _ _ _ _ ZE.out) Tryz.underlying30 rfl (row_size hlen)) rfl ?_
   rw [HQ2.out]
   refine ⟨cs,rfl,fun d hd=>S1.out d ?_,below_setRow HBE.out (Nat.le_refl _) _⟩
   exact (Apart.of_setRow0 cs.toArray hBo (by have:=HSZ.out;omega)).after hd (by have:=HSZ.out;omega)
end Go.Proofs.YtmjfggadehkbjaaGreatDoor
