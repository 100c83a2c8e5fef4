/- module.used: the indices of the functions that are used. -/
import Derived.Test.YticpebgjbfanpaaGreatDoorGA
import Derived.Test.YticpebgjbfanpaaGreatDoorKH
import Derived.Test.YticpebgjbfanpaaGreatDoorKG
import Derived.Test.YticpebgjbfanpaaGreatDoorHG
import Derived.Test.YticpebgjbfanpaaGreatDoorKF
import Derived.Test.YticpebgjbfanpaaGreatDoorKB
import Derived.Lib.SlicesCompact
import Derived.Test.YticpebgjbfanpaaGreatDoorShelf
import Derived.Maps.RangeWalk
import Derived.Sort.KeysCollected
import Derived.Sort.OwnSorted
namespace Go.Proofs.YticpebgjbfanpaaGreatDoor
open Go.RowKit Go.Maps
def UsdP (l:List FuncD) (x:ExprD) (w:World) (e:Ending) (w':World):Prop:=∃ (mo:Nat) (L:List Nat),e=.returned (.map (some mo))∧SetI w' mo L∧L.Nodup∧(∀ i∈L,i<l.length)∧WorkI l x L L.length∧Below w.heap.size w w'
theorem wl_one (p:UsP):(wlkU p).toArray.all (·.oneCell')=true:=Go.all_oneCell_toArray (by intro u hu;simp [wlkU] at hu;rcases hu with rfl | rfl<;>rfl)
theorem str_at {l:List FuncD} {k:Nat} (hk:k<l.length):(strs (nmsF l))[k]'(by rw [strs,List.length_map,nmsF_len];exact hk)=l[k].name.data.toList:=by simp [strs,nmsF]
theorem strs_len (l:List FuncD):(strs (nmsF l)).length=l.length:=by rw [strs,List.length_map,nmsF_len]
theorem StU.start {l:List FuncD} {w:World} {am ab:Nat} (hi:IdxAt w am l.length (strs (nmsF l))) (hc:w.cell? ⟨ab,0,none⟩=some (.map (some am))) (hM:MaxC w) (hl:l.length≤65536) (wl:List Value) :
 StU ⟨ab,am,w.heap.size+1,w.heap.size,w.heap.size+1+1,w.heap.size⟩ l 0 [] ((((w.alloc (.map #[] 0)).alloc (.cells #[.map (some w.heap.size)] 73)).alloc (.cells #[.slice none 0 0] 117)).alloc (.cells wl.toArray 79)):=by
 have s1:(w.alloc (.map #[] 0)).heap.size=w.heap.size+1:=World.size_alloc _ _
 have s2:((w.alloc (.map #[] 0)).alloc (.cells #[.map (some w.heap.size)] 73)).heap.size=w.heap.size+1+1:=by rw [World.size_alloc,s1]
 have s3:(((w.alloc (.map #[] 0)).alloc (.cells #[.map (some w.heap.size)] 73)).alloc (.cells #[.slice none 0 0] 117)).heap.size=w.heap.size+1+1+1:=by rw [World.size_alloc,s2]
 have hb:Below w.heap.size w ((((w.alloc (.map #[] 0)).alloc (.cells #[.map (some w.heap.size)] 73)).alloc (.cells #[.slice none 0 0] 117)).alloc (.cells wl.toArray 79)):=belowThen (belowThen (belowThen (belowBox w _) (belowBox _ _)) (belowBox _ _)) (belowBox _ _)
 have h1:=heap_alloc_new w (.map #[] 0)
 have h2:=heap_alloc_new (w.alloc (.map #[] 0)) (.cells #[.map (some w.heap.size)] 73)
 have h3:=heap_alloc_new ((w.alloc (.map #[] 0)).alloc (.cells #[.map (some w.heap.size)] 73)) (.cells #[.slice none 0 0] 117)
 rw [s1] at h2
 rw [s2] at h3
 obtain ⟨m,hm⟩:=hM
 refine ⟨hi.block (hb.block _ hi.lt),cell_same hc (hb.block _ (World.block_lt_of_cell? w _ hc)),?_,?_,⟨.slice none 0 0,?_,.inl ⟨rfl,rfl⟩⟩,⟨m,cell_same hm (hb.block _ (World.block_lt_of_cell? w _ hm))⟩,hi.lt,World.block_lt_of_cell? w _ hc,World.block_lt_of_cell? w _ hm,Nat.le_refl _,by show w.heap.size≤w.heap.size+1+1;omega,hb.size,List.nodup_nil,(fun _ h=>by cases h),Nat.le_refl _,hl⟩
 ·rw [heap_alloc_old _ _ (by rw [s3];show w.heap.size+1<_;omega),heap_alloc_old _ _ (by rw [s2];show w.heap.size+1<_;omega)]
  exact h2
 ·refine (SetI.made w).block ?_
  rw [heap_alloc_old _ _ (by rw [s3];show w.heap.size<_;omega),heap_alloc_old _ _ (by rw [s2];show w.heap.size<_;omega),heap_alloc_old _ _ (by rw [s1];show w.heap.size<_;omega)]
 ·rw [heap_alloc_old _ _ (by rw [s3];show w.heap.size+1+1<_;omega)]
  exact h3
theorem RowT.setFar {t:TypeId} {w:World} {b b':Nat} {cs:List Value} (h:RowT t w b cs) (hne:b≠b') (j:Nat) (v:Value):RowT t (w.setCell ⟨b',j,none⟩ v) b cs:=(heap_setCell_other w ⟨b',j,none⟩ b v hne).trans h
theorem IntQ.stay {w:World} {lo g off:Nat} {T:List Nat} (h:IntQ w lo (.slice (some ⟨g,off+1,none⟩) T.length 0) T):IntQ w lo (.slice (some ⟨g,off,none⟩) T.length 0) T:=by
 rcases h with ⟨h,_⟩ | ⟨g',off',cap,cur,h1,h2,h3,h4,h5,h6,h7,h8⟩
 ·cases h
 ·simp only [Value.slice.injEq,Option.some.injEq,Addr.mk.injEq,and_true,true_and] at h1
  obtain ⟨⟨rfl,rfl⟩,rfl⟩:=h1
  obtain rfl:T=[]:=List.length_eq_zero_iff.1 (by omega)
  exact .inr ⟨g,off,0,cur,rfl,h2,h3,h4,h5,by omega,h7,by simp⟩
theorem StU.ult {p:UsP} {l:List FuncD} {j:Nat} {L:List Nat} {w:World} (h:StU p l j L w):ULt p.m w.heap.size:=by
 obtain ⟨v,hv,_⟩:=h.todo
 exact ⟨h.hsz,h.set.lt,(Array.getElem?_eq_some_iff.1 hv).1⟩
theorem StU.step {p:UsP} {l:List FuncD} {j i:Nat} {L:List Nat} {T:List Nat} {w:World} {v':Value} (h:StU p l j L w) (hd:L.drop j=i::T) (hq:IntQ w p.b0 v' T):StU p l (j+1) L (w.setCell ⟨p.tb,0,none⟩ v')∧FU p.m w (w.setCell ⟨p.tb,0,none⟩ v'):=by
 obtain ⟨v,hv,_⟩:=h.todo
 obtain ⟨es,c,hm⟩:=h.set.obj
 obtain ⟨mm,hmx⟩:=h.max
 have htm:p.mo≠p.tb:=fun e=>by rw [← e,hm] at hv;cases hv
 have hot:p.ob≠p.tb:=fun e=>by have:=h.oc;rw [e,hv] at this;simp at this
 have oth:∀ k,k≠p.tb→(w.setCell ⟨p.tb,0,none⟩ v').heap[k]?=w.heap[k]?:=fun k hk=>heap_setCell_other _ _ _ _ hk
 have htb:=h.htb
 have hlen:j<L.length:=by
  have:=congrArg List.length hd
  rw [List.length_drop] at this
  simp at this
  omega
 have hdr:L.drop (j+1)=T:=by rw [← List.drop_drop,hd];rfl
 refine ⟨⟨h.idx.block (oth _ (by have:=h.ham;omega)),cell_same h.ac (oth _ (by have:=h.hab;omega)),(oth _ hot).trans h.oc,h.set.block (oth _ htm),⟨v',?_,?_⟩,⟨mm,cell_same hmx (oth _ (by have:=h.hmx;omega))⟩,h.ham,h.hab,h.hmx,h.hmo,h.htb,by simpa using h.hsz,h.nd,h.lim,hlen,h.hl⟩,fu_box w v' htb⟩
 ·exact heap_setCell_same w p.tb 0 #[v] 117 v' hv
 ·rw [hdr]
  exact hq.block fun k _ _ hr=>oth k (fun e=>by
   obtain ⟨cur,hc,_⟩:=hr
   rw [e,hv] at hc
   simp at hc)
set_option maxRecDepth 100000 in
set_option maxHeartbeats 12800000 in
theorem used_p (l:List FuncD) (x:ExprD) (fa:Option Addr) (fc:Nat) (ms cs:List Value) (w:World) (B N:Nat) (hN:N≤1048576) (hB:B≤w.heap.size) (hM:MaxC w) (h0:prgE l x=0) (hA:FuncsAt w B N l fa) (hx:ExprD.At w B N x ms) (hcs:cs=.slice fa l.length fc::ms) :
 Calls Tryz.prog 31 #[.agg cs.toArray] w (UsdP l x w):=by
 have hml:ms.length=17:=hx.len
 have HMS:=Hd (show (cs.drop 1).take 17=ms by rw [hcs];exact List.take_of_length_le (show ms.length≤17 by omega))
 have hlm:=Hd (show (Tryz.prog.info? 34).map (·.size)=some ms.length by rw [hml];exact sizeE)
 have HC0:=Hd (show cs[0]?=some (.slice fa l.length fc) by rw [hcs];rfl)
 have HA:=Hd hA
 have HX:=Hd hx
 have HM:=Hd hM
 have HP:=Hd (prg_all h0)
 have hl256:l.length≤256:=HP.out.1
 have R1:=Hd (RowT.new w 36 cs)
 have s1:(w.alloc (.cells cs.toArray 36)).heap.size=w.heap.size+1:=World.size_alloc _ _
 have s2:((w.alloc (.cells cs.toArray 36)).alloc (.map #[] 0)).heap.size=w.heap.size+1+1:=by rw [World.size_alloc,s1]
 have s3:(((w.alloc (.cells cs.toArray 36)).alloc (.map #[] 0)).alloc (.cells #[.map (some (w.heap.size+1))] 116)).heap.size=w.heap.size+1+1+1:=by rw [World.size_alloc,s2]
 have B3:=Hd (show Below w.heap.size w (((w.alloc (.cells cs.toArray 36)).alloc (.map #[] 0)).alloc (.cells #[.map (some (w.heap.size+1))] 116)) from belowThen (belowThen (belowBox w _) (belowBox _ _)) (belowBox _ _))
 have R3:=Hd (show RowT 36 (((w.alloc (.cells cs.toArray 36)).alloc (.map #[] 0)).alloc (.cells #[.map (some (w.heap.size+1))] 116)) w.heap.size cs from (R1.out.alloc _).alloc _)
 have I3:=Hd (show IdxF (((w.alloc (.cells cs.toArray 36)).alloc (.map #[] 0)).alloc (.cells #[.map (some (w.heap.size+1))] 116)) (w.heap.size+1) (l.length-l.length) (strs (nmsF l)) l.length by
  have h:=(IdxF.made (w.alloc (.cells cs.toArray 36)) (strs (nmsF l))).later (belowBox _ (.cells #[.map (some (w.heap.size+1))] 116))
  rw [s1,strs_len] at h
  rwa [Nat.sub_self])
 have C3:=Hd (show RowT 116 (((w.alloc (.cells cs.toArray 36)).alloc (.map #[] 0)).alloc (.cells #[.map (some (w.heap.size+1))] 116)) (w.heap.size+2) [.map (some (w.heap.size+1))] by
  have h:=RowT.new ((w.alloc (.cells cs.toArray 36)).alloc (.map #[] 0)) 116 [.map (some (w.heap.size+1))]
  rwa [s2] at h)
 have S3:=Hd (show w.heap.size+2<(((w.alloc (.cells cs.toArray 36)).alloc (.map #[] 0)).alloc (.cells #[.map (some (w.heap.size+1))] 116)).heap.size by rw [s3];omega)
 have e0:=R3.out.cell HC0.out
 have hmm:=@run_makeMap Tryz.prog
 clear hml hcs hA hx h0 hM s1 s2 s3 R1
 go_enter Tryz.func31,Tryz.ntmps31
 go_wp2_with fail
 go_simp
 go_loopw [4] (fun i wr=>∃ k:Nat,k≤l.length∧i=.int .i64 ((k:Int)-1)∧Hid (IdxF wr (w.heap.size+1) (l.length-k) (strs (nmsF l)) k)∧Hid (RowT 116 wr (w.heap.size+2) [.map (some (w.heap.size+1))])∧Hid (RowT 36 wr w.heap.size cs)∧Hid (Below w.heap.size w wr)∧Hid (w.heap.size+2<wr.heap.size)) (fun i _=>(intOf i+1).toNat)
 case atStart=>exact ⟨l.length,by omega,rfl,I3,C3,R3,B3,S3⟩
 case round =>
  obtain ⟨w1,rfl⟩:∃ w1,w1=wr:=⟨wr,rfl⟩
  clear I3 C3 R3 B3 S3 e0
  obtain ⟨k,hk,rfl,HI,HC,HR,HB,HS⟩:=hrel
  by_cases hk0:k=0
  ·subst hk0
   have HIA:=Hd (show IdxAt w1 (w.heap.size+1) l.length (strs (nmsF l)) by have h:=HI.out.done;rwa [Nat.sub_zero] at h)
   have HM1:=Hd (HM.out.then HB.out)
   have HS4:=Hd (StU.start HIA.out (HC.out.cell (j:=0) rfl) HM1.out (by omega:l.length≤65536) (wlkU ⟨w.heap.size+2,w.heap.size+1,w1.heap.size+1,w1.heap.size,w1.heap.size+1+1,w1.heap.size⟩))
   have HBV:=Hd (show Below w1.heap.size w1 ((((w1.alloc (.map #[] 0)).alloc (.cells #[.map (some w1.heap.size)] 73)).alloc (.cells #[.slice none 0 0] 117)).alloc (.cells (wlkU ⟨w.heap.size+2,w.heap.size+1,w1.heap.size+1,w1.heap.size,w1.heap.size+1+1,w1.heap.size⟩).toArray 79)) from belowThen (belowThen (belowThen (belowBox w1 _) (belowBox _ _)) (belowBox _ _)) (belowBox _ _))
   have hsz3:(((w1.alloc (.map #[] 0)).alloc (.cells #[.map (some w1.heap.size)] 73)).alloc (.cells #[.slice none 0 0] 117)).heap.size=w1.heap.size+1+1+1:=by rw [World.size_alloc,World.size_alloc,World.size_alloc]
   have HSZ3:=Hd hsz3
   have HRV:=Hd (show RowT 79 ((((w1.alloc (.map #[] 0)).alloc (.cells #[.map (some w1.heap.size)] 73)).alloc (.cells #[.slice none 0 0] 117)).alloc (.cells (wlkU ⟨w.heap.size+2,w.heap.size+1,w1.heap.size+1,w1.heap.size,w1.heap.size+1+1,w1.heap.size⟩).toArray 79)) (w1.heap.size+1+1+1) (wlkU ⟨w.heap.size+2,w.heap.size+1,w1.heap.size+1,w1.heap.size,w1.heap.size+1+1,w1.heap.size⟩) by
    have h:=RowT.new (((w1.alloc (.map #[] 0)).alloc (.cells #[.map (some w1.heap.size)] 73)).alloc (.cells #[.slice none 0 0] 117)) 79 (wlkU ⟨w.heap.size+2,w.heap.size+1,w1.heap.size+1,w1.heap.size,w1.heap.size+1+1,w1.heap.size⟩)
    rwa [hsz3] at h)
   have HSZV:=Hd (show ((((w1.alloc (.map #[] 0)).alloc (.cells #[.map (some w1.heap.size)] 73)).alloc (.cells #[.slice none 0 0] 117)).alloc (.cells (wlkU ⟨w.heap.size+2,w.heap.size+1,w1.heap.size+1,w1.heap.size,w1.heap.size+1+1,w1.heap.size⟩).toArray 79)).heap.size=w1.heap.size+1+1+1+1 by rw [World.size_alloc,hsz3])
   obtain ⟨p,hp⟩:∃ p:UsP,p=⟨w.heap.size+2,w.heap.size+1,w1.heap.size+1,w1.heap.size,w1.heap.size+1+1,w1.heap.size⟩:=⟨_,rfl⟩
   have HWL:=Hd (show wlkU p=[.func (.func 53) #[] #[.pointer (some ⟨w.heap.size+1+1,0,none⟩),.pointer (some ⟨w1.heap.size+1,0,none⟩),.pointer (some ⟨w1.heap.size+1+1,0,none⟩)],.func (.func 52) #[] #[]] by rw [hp];rfl)
   have HPB:=Hd (show p.b0=w1.heap.size∧p.mo=w1.heap.size∧p.tb=w1.heap.size+1+1 by rw [hp];exact ⟨rfl,rfl,rfl⟩)
   have HPO:=Hd (show p.ob=w1.heap.size+1 by rw [hp])
   rw [← hp] at HS4 HBV HRV HSZV
   have hsw:=Hd (show (Tryz.prog.info? 79).map (·.size)=some (wlkU p).length by kernel_rfl)
   have hsw2:=Hd (show (Tryz.prog.info? 79).map (·.size)=some (wlkU p).toArray.size by kernel_rfl)
   have hone:=Hd (wl_one p)
   have h2:=Hd (show 2=(wlkU p).toArray.size by rfl)
   obtain ⟨wV,hwV⟩:∃ wV,wV=(((w1.alloc (.map #[] 0)).alloc (.cells #[.map (some w1.heap.size)] 73)).alloc (.cells #[.slice none 0 0] 117)).alloc (.cells (wlkU p).toArray 79):=⟨_,rfl⟩
   have HWV:=Hd hwV
   rw [← hwV] at HS4 HBV HRV HSZV
   have HRP:=Hd (show RowT 36 wV w.heap.size cs from HR.out.below HBV.out HR.out.lt)
   have HBW:=Hd (show Below w.heap.size w wV from belowThen HB.out HBV.out)
   have HE1:=Hd (show ExprD.At wV B N x ms from ExprD.At.below (HBW.out.mono hB) _ HX.out)
   clear hp hwV hsz3
   go_wp2_with (first
    | ((with_reducible show wpList _ _ _ (⟨none,.store 79 _ _,_,_,_,_⟩::_) _ _);refine wpList_store_new rfl 79 _ _ rfl _ (wlkU p).toArray (by rw [HSZ3.out];rfl) (by rw [HWL.out];rfl) hsw2.out h2.out hone.out ?_;rw [← HWV.out])
    | ((with_reducible show wpList _ _ _ (⟨some 29,_,_,_,_,_⟩::_) _ _);refine wpList_load_mid rfl 79 _ rfl (w1.heap.size+1+1+1) 0 rfl (wlkU p) _ HRV.out.range Tryz.underlying79 rfl hsw.out ?_)
    | ((with_reducible show wpList _ _ _ (⟨some 31,_,_,_,_,_⟩::_) _ _);refine wpList_load_mid rfl 34 _ rfl w.heap.size 1 rfl ms _ (HRP.out.cells.part HMS.out) Tryz.underlying34 rfl hlm.out ?_))
   have HUL:=Hd (show ULt p.m wV.heap.size from ⟨by show p.b0≤_;rw [HPB.out.1,HSZV.out];omega,by show p.mo<_;rw [HPB.out.2.1,HSZV.out];omega,by show p.tb<_;rw [HPB.out.2.2,HSZV.out];omega⟩)
   have HBB:=Hd (show B≤p.b0 by rw [HPB.out.1];exact Nat.le_trans hB HB.out.size)
   have HVX:=Hd (err_valid HP.out.2.1)
   refine (vig_all (gU p l 0) (gU_ok p l 0) 47 x HVX.out.1 HVX.out.2 wV wV.heap.size wV.heap.size B N 0 ms nilS [.slice none 0 0,.slice none 0 0,.slice none 0 0] [] hN (by omega) (Nat.le_refl _) HBB.out HUL.out (Nat.le_refl _) HS4.out (okA_U p l 0 47 x nilS HVX.out.1 HVX.out.2 GsOk.nil) (ScD.At.nil _ _ _ _) HE1.out).mono ?_
   rintro e w2 ⟨rs,rfl,_,_,hst,hfu,_⟩
   have HB2:=Hd (show Below w1.heap.size w1 w2 from HBV.out.trans (hfu.low (B0:=w1.heap.size) (by rw [HSZV.out];omega) (by show _≤p.b0;rw [HPB.out.1];omega)))
   have HST2:=Hd (show StU p l 0 ((calM x).foldl (pshU l) []) w2 from hst)
   have HW2:=Hd (WorkI.start l x)
   have HRW2:=Hd (show RowT 79 w2 (w1.heap.size+1+1+1) (wlkU p) from hfu.row HRV.out (by rw [HSZV.out];omega) (by decide) ⟨by show p.b0≤_;rw [HPB.out.1];omega,by show p.mo<_;rw [HPB.out.2.1];omega,by show p.tb<_;rw [HPB.out.2.2];omega⟩)
   obtain ⟨L0,hL0⟩:∃ L0,L0=(calM x).foldl (pshU l) []:=⟨_,rfl⟩
   rw [← hL0] at HST2 HW2
   have HTB:=Hd (show w1.heap.size+1+1=p.tb from HPB.out.2.2.symm)
   have HOB:=Hd (show w1.heap.size+1=p.ob from HPO.out.symm)
   clear hst hfu hL0 HS4 HBV HRV HSZV hsw2 hone h2 HWV HRP HBW HE1 HSZ3 HM1 HIA HVX HI HC hmm
   go_wp2_with fail
   go_simp
   go_loopg [] l.length (fun g wr=>∃ (j:Nat) (L:List Nat),g=l.length-j∧Hid (StU p l j L wr)∧Hid (WorkI l x L j)∧Hid (RowT 79 wr (w1.heap.size+1+1+1) (wlkU p))∧Hid (Below w1.heap.size w1 wr))
   case atStart=>exact ⟨0,L0,by omega,HST2,HW2,HRW2,HB2⟩
   case round =>
    clear HST2 HW2 HRW2 HB2
    obtain ⟨j,L,hgk,HST,HWK,HRW,HBR⟩:=hrel
    have HGK:=Hd hgk
    clear hgk
    obtain ⟨v,hv,hq⟩:=HST.out.todo
    have ht0:wr.cell? ⟨w1.heap.size+1+1,0,none⟩=some v:=by rw [HTB.out,cell_of_row wr p.tb 0 _ _ _ hv];rfl
    have HV:=Hd hv
    have HQ:=Hd hq
    obtain ⟨T,hT⟩:∃ T,L.drop j=T:=⟨_,rfl⟩
    have HT:=Hd hT
    rw [hT] at HQ
    clear hv hq hT
    cases T with
    | nil =>
      obtain ⟨qa,qc,hqs⟩:=HQ.out.shape
      have hjl:j=L.length:=by
       have h1:=congrArg List.length HT.out
       rw [List.length_drop] at h1
       have h2:=HST.out.hj
       simp at h1
       omega
      subst hjl
      have ho0:wr.cell? ⟨w1.heap.size+1,0,none⟩=some (.map (some p.mo)):=by rw [HOB.out,cell_of_row wr p.ob 0 _ _ _ HST.out.oc];rfl
      rw [hqs,List.length_nil] at ht0
      clear hqs
      go_wp2_with fail
      go_ret
      exact ⟨p.mo,L,rfl,HST.out.set,HST.out.nd,HST.out.lim,HWK.out,HB.out.trans (HBR.out.mono HB.out.size)⟩
    | cons i T =>
      obtain ⟨g,off,cap,rfl,hc0,hq2⟩:=HQ.out.tail
      have HQ2:=Hd hq2
      have hil:i<l.length:=HST.out.lim i (by
       have:i∈L.drop j:=by rw [HT.out];simp
       exact List.mem_of_mem_drop this)
      have hil2:(i:Int)<(l.length:Int):=by omega
      have hc1:wr.cell? ⟨g,off,none⟩=some (.int .i64 (i:Int)):=hc0
      obtain ⟨b,o,rfl,hb,hget⟩:=HA.out.get (by intro h;rw [h] at hil;simp at hil)
      obtain ⟨fs,g1,g2⟩:=hget i hil
      have HFL:=Hd (show fs.length=19 from g2.len)
      have hlf:=Hd (show (Tryz.prog.info? 82).map (·.size)=some fs.length by rw [HFL.out];exact sizeFN)
      have hlf2:=Hd (show (Tryz.prog.info? 82).map (·.size)=some fs.toArray.size by rw [List.size_toArray,HFL.out];exact sizeFN)
      have hB1:B≤w1.heap.size:=Nat.le_trans hB HB.out.size
      have HFR:=Hd (show ∀ u,Below w1.heap.size w1 u→CellsAt u b (o+i * 19) fs from fun u hu=>g1.below (belowThen HB.out hu |>.mono hB) hb)
      have HFD:=Hd (show ∀ u,Below w1.heap.size w1 u→FuncD.At u B N l[i] fs from fun u hu=>FuncD.At.below (belowThen HB.out hu |>.mono hB) _ g2)
      have hone:=Hd (show fs.toArray.all (·.oneCell')=true by obtain ⟨_,_,_,gh⟩:=g2.has;exact Go.all_oneCell_toArray gh.one)
      have HRPR:=Hd (show ∀ u,Below w1.heap.size w1 u→RowT 36 u w.heap.size cs from fun u hu=>HR.out.below hu HR.out.lt)
      have p0:=(HRPR.out _ HBR.out).cell HC0.out
      clear g1 g2 hget hc0 hq2
      have hlt0:=World.block_lt_of_cell? wr _ ht0
      have hlt1:=World.block_lt_of_cell? wr _ hc1
      have HT0:=Hd ht0
      have HC1:=Hd hc1
      have HL0:=Hd hlt0
      have HL1:=Hd hlt1
      have h0T:0<T.length+1:=Nat.succ_pos _
      have HQN:=Hd (show (i::T).length=T.length+1 from rfl)
      clear ht0 hc1 hlt0 hlt1 HQ
      have ht0:=HT0.out
      go_wp2_with fail
      have HD:=drewW wr
      refine wp_region_held_drew (S:=fun u=>Below wr.heap.size wr u) (by kernel_rfl) HD (fun hHeld=>?_)
      refine' tk 0 (.pointer (some ⟨w.heap.size,0,none⟩)) rfl rfl (.inl ⟨by rfl,fun u hu=>(by go_simp)⟩) hHeld ?_
      simp only [sq1,sq0]
      refine' tk 1 (.slice (some ⟨b,o,none⟩) l.length fc) rfl rfl (.inl ⟨by rfl,fun u hu=>(by have hc:=(HRPR.out _ (belowThen HBR.out hu)).cell HC0.out;go_simp)⟩) hHeld ?_
      simp only [sq1,sq0]
      refine' tk 2 (.slice (some ⟨g,off,none⟩) (T.length+1) (cap+1)) rfl rfl (.inl ⟨by rfl,fun u hu=>(by have hc:=(hu.cell HL0.out).trans HT0.out;go_simp)⟩) hHeld ?_
      simp only [sq1,sq0]
      refine' tk 3 (.pointer (some ⟨g,off,none⟩)) rfl rfl (.inl ⟨by rfl,fun u hu=>(by go_simp)⟩) hHeld ?_
      simp only [sq1,sq0]
      refine' tk 4 (.int .i64 (i:Int)) rfl rfl (.inl ⟨by rfl,fun u hu=>(by have hc:=(hu.cell HL1.out).trans HC1.out;go_simp)⟩) hHeld ?_
      simp only [sq1,sq0]
      refine' tk 5 (.pointer (some ⟨b,o+i * 19,none⟩)) rfl rfl (.inl ⟨by rfl,fun u hu=>(by go_simp)⟩) hHeld ?_
      simp only [sq1,sq0]
      refine' tk 6 _ rfl rfl (yieldsIf_load_mid (by kernel_rfl) 82 _ rfl (b) (o+i * 19) rfl fs _ (fun u hu=>(HFR.out _ (belowThen HBR.out hu)).range) Tryz.underlying82 rfl hlf.out) hHeld ?_
      simp only [sq1,sq0]
      refine rd1 7 rfl (fun K hK=>?_)
      go_simp
      have hz:(wr.alloc (.cells #[.string ⟨#[]⟩,.slice none 0 0,.int .i64 0,.string ⟨#[]⟩,.int .i64 0,.bool false,.bool false,.string ⟨#[]⟩,.int .i64 0,.int .i64 0,.int .i64 0,.int .i64 0,.int .i64 0,.string ⟨#[]⟩,.slice none 0 0,.slice none 0 0,.slice none 0 0,.slice none 0 0,.slice none 0 0] 82)).drew.heap[wr.heap.size]?=some (.cells #[.string ⟨#[]⟩,.slice none 0 0,.int .i64 0,.string ⟨#[]⟩,.int .i64 0,.bool false,.bool false,.string ⟨#[]⟩,.int .i64 0,.int .i64 0,.int .i64 0,.int .i64 0,.int .i64 0,.string ⟨#[]⟩,.slice none 0 0,.slice none 0 0,.slice none 0 0,.slice none 0 0,.slice none 0 0] 82 (0,0)):=heap_alloc_new wr (.cells #[.string ⟨#[]⟩,.slice none 0 0,.int .i64 0,.string ⟨#[]⟩,.int .i64 0,.bool false,.bool false,.string ⟨#[]⟩,.int .i64 0,.int .i64 0,.int .i64 0,.int .i64 0,.int .i64 0,.string ⟨#[]⟩,.slice none 0 0,.slice none 0 0,.slice none 0 0,.slice none 0 0,.slice none 0 0] 82)
      have hA1:Below wr.heap.size wr (wr.alloc (.cells #[.string ⟨#[]⟩,.slice none 0 0,.int .i64 0,.string ⟨#[]⟩,.int .i64 0,.bool false,.bool false,.string ⟨#[]⟩,.int .i64 0,.int .i64 0,.int .i64 0,.int .i64 0,.int .i64 0,.string ⟨#[]⟩,.slice none 0 0,.slice none 0 0,.slice none 0 0,.slice none 0 0,.slice none 0 0] 82)).drew:=belowThen (belowBox wr _) (drewW _)
      refine hK.out _ _ hA1 (fun hHeld1=>?_)
      clear hK K hHeld
      refine rd1 8 rfl (fun K hK=>?_)
      rw [if_pos (by kernel_rfl)]
      refine wp_store_row 82 _ _ rfl wr.heap.size fs.toArray rfl rfl 82 _ hz hlf2.out (show 19=fs.toArray.size by rw [List.size_toArray,HFL.out]) hone.out ?_
      simp only [List.getElem_toArray,List.getElem_cons_succ,List.getElem_cons_zero,Act.put]
      have hB2:=below_setRow hHeld1 (Nat.le_refl wr.heap.size) fs.toArray
      have hr5:=setRow_heap _ _ _ fs.toArray _ _ hz
      refine hK.out _ _ hB2 (fun hHeld2=>?_)
      clear hK K hHeld1 hA1 hz
      obtain ⟨w5,hw5⟩:∃ w5,w5=World.setRow (wr.alloc (.cells #[.string ⟨#[]⟩,.slice none 0 0,.int .i64 0,.string ⟨#[]⟩,.int .i64 0,.bool false,.bool false,.string ⟨#[]⟩,.int .i64 0,.int .i64 0,.int .i64 0,.int .i64 0,.int .i64 0,.string ⟨#[]⟩,.slice none 0 0,.slice none 0 0,.slice none 0 0,.slice none 0 0,.slice none 0 0] 82)).drew wr.heap.size fs.toArray:=⟨_,rfl⟩
      rw [← hw5] at hB2 hr5 hHeld2 ⊢
      have HB5:=Hd hB2
      have HR5:=Hd (show RowT 82 w5 wr.heap.size fs from hr5)
      have HS5:=Hd (show StU p l j L w5 from HST.out.keep (KeepT.of_below hB2))
      have HRW5:=Hd (HRW.out.then hB2)
      have ht5:w5.cell? ⟨w1.heap.size+1+1,0,none⟩=some (.slice (some ⟨g,off,none⟩) (T.length+1) (cap+1)):=(hB2.cell HL0.out).trans HT0.out
      have hf5:w5.frozen? ⟨w1.heap.size+1+1,0,none⟩=false:=by
       obtain ⟨v9,hv9,_⟩:=HS5.out.todo
       rw [HTB.out]
       exact frozen_of_row w5 p.tb 0 _ _ hv9
      have HQ5:=Hd (show IntQ w5 p.b0 (.slice (some ⟨g,off+1,none⟩) T.length cap) T from HQ2.out.block fun k hk _ _=>hB2.block k hk)
      refine wpAnyH_done (by kernel_rfl) ?_ _
      have HBI:=Hd (belowThen HBR.out hB2)
      have hjl:j<L.length:=by
       have h1:=congrArg List.length HT.out
       rw [List.length_drop] at h1
       simp at h1
       omega
      have HJL:=Hd (show j<l.length from Nat.lt_of_lt_of_le hjl (lenN _ L HST.out.nd HST.out.lim))
      have HLJ:=Hd (show L[j]?=some i by
       have h1:(L.drop j)[0]?=some i:=by rw [HT.out];rfl
       rwa [List.getElem?_drop,Nat.add_zero] at h1)
      have hPK:=HP.out.2.2.2 i hil
      have hVX:=err_valid hPK.2.1
      have hOK:=Hd (okA_U p l (j+1) 47 l[i].body (nilS.par l[i].params) hVX.1 hVX.2 (GsOk.nil.par (prm_col (head_prm hPK.1))))
      have HVA:=Hd (vig_all (gU p l (j+1)) (gU_ok p l (j+1)) 47 l[i].body hVX.1 hVX.2)
      have HCF:=Hd (show calF l i=clE 47 l[i].body (nilS.par l[i].params) by unfold calF;rw [List.getD_eq_getElem?_getD,List.getElem?_eq_getElem hil];rfl)
      have HNE:=Hd (show wr.heap.size≠w1.heap.size+1+1 from Nat.ne_of_gt HL0.out)
      clear hw5 hB2 hr5 hHeld2 HD ht0 hjl hPK hVX
      rcases cap with _ | cap
      case zero =>
       have hst6:=HS5.out.step HT.out (v':=.slice (some ⟨g,off,none⟩) T.length 0) HQ5.out.stay
       obtain ⟨w6,hw6⟩:∃ w6,w6=w5.setCell ⟨w1.heap.size+1+1,0,none⟩ (.slice (some ⟨g,off,none⟩) T.length 0):=⟨_,rfl⟩
       rw [← HTB.out,← hw6] at hst6
       have HW6:=Hd hw6
       have HS6:=Hd hst6.1
       have HRW6:=Hd (show RowT 79 w6 (w1.heap.size+1+1+1) (wlkU p) by rw [hw6];exact HRW5.out.setFar (by omega) _ _)
       have HR6:=Hd (show RowT 82 w6 wr.heap.size fs by rw [hw6];exact HR5.out.setFar HNE.out _ _)
       have HB6:=Hd (show Below w1.heap.size w1 w6 from HBI.out.trans (hst6.2.low HBI.out.size (by show _≤p.b0;rw [HPB.out.1];exact Nat.le_refl _)))
       clear hw6 hst6
       go_wp2_with (first
        | ((with_reducible show wpList _ _ _ (⟨some 46,_,_,_,_,_⟩::_) _ _);refine wpList_load_mid rfl 79 _ rfl (w1.heap.size+1+1+1) 0 rfl (wlkU p) _ (by rw [← HW6.out];exact HRW6.out.range) Tryz.underlying79 rfl hsw.out ?_)
        | ((with_reducible show wpList _ _ _ (⟨some 47,_,_,_,_,_⟩::_) _ _);refine wpList_load_mid rfl 82 _ rfl wr.heap.size 0 rfl fs _ (by rw [← HW6.out];exact HR6.out.range) Tryz.underlying82 rfl hlf.out ?_))
       rw [← HW6.out]
       refine (bod_g (gU p l (j+1)) (gU_ok p l (j+1)) _ (clE 47 l[i].body) _ l[i] HVA.out w6 w6.heap.size w6.heap.size B N 0 fs nilS [.slice none 0 0,.slice none 0 0,.slice none 0 0] L hN (by omega) (Nat.le_refl _) HBB.out HS6.out.ult (Nat.le_refl _) HS6.out hOK.out (ScD.At.nil _ _ _ _) (HFD.out _ HB6.out)).mono ?_
       rintro e w7 ⟨rs7,rfl,_,_,hst7,hfu7,_⟩
       have HB7:=Hd (show Below w1.heap.size w1 w7 from HB6.out.trans (hfu7.low HB6.out.size (by show _≤p.b0;rw [HPB.out.1];exact Nat.le_refl _)))
       have HRW7:=Hd (show RowT 79 w7 (w1.heap.size+1+1+1) (wlkU p) from hfu7.row HRW6.out HRW6.out.lt (by decide) ⟨by show p.b0≤_;rw [HPB.out.1];omega,by show p.mo<_;rw [HPB.out.2.1];omega,by show p.tb<_;rw [HPB.out.2.2];omega⟩)
       have HWK7:=Hd (HWK.out.next HLJ.out)
       have HST7:=Hd (show StU p l (j+1) ((calF l i).foldl (pshU l) L) w7 by rw [HCF.out];exact hst7)
       clear hst7 hfu7
       go_wp2_with fail
       go_roundg (l.length-(j+1))
       case measure=>(have h1:=HGK.out;have h2:=HJL.out;omega)
       case rel=>exact ⟨j+1,_,rfl,HST7,HWK7,HRW7,HB7⟩
      case succ =>
       have hcp1:1<cap+1+1:=by omega
       have hcp2:¬ 1=cap+1+1:=by omega
       have hst6:=HS5.out.step HT.out (v':=.slice (some ⟨g,off+1,none⟩) T.length (cap+1)) HQ5.out
       obtain ⟨w6,hw6⟩:∃ w6,w6=w5.setCell ⟨w1.heap.size+1+1,0,none⟩ (.slice (some ⟨g,off+1,none⟩) T.length (cap+1)):=⟨_,rfl⟩
       rw [← HTB.out,← hw6] at hst6
       have HW6:=Hd hw6
       have HS6:=Hd hst6.1
       have HRW6:=Hd (show RowT 79 w6 (w1.heap.size+1+1+1) (wlkU p) by rw [hw6];exact HRW5.out.setFar (by omega) _ _)
       have HR6:=Hd (show RowT 82 w6 wr.heap.size fs by rw [hw6];exact HR5.out.setFar HNE.out _ _)
       have HB6:=Hd (show Below w1.heap.size w1 w6 from HBI.out.trans (hst6.2.low HBI.out.size (by show _≤p.b0;rw [HPB.out.1];exact Nat.le_refl _)))
       clear hw6 hst6
       go_wp2_with (first
        | ((with_reducible show wpList _ _ _ (⟨some 46,_,_,_,_,_⟩::_) _ _);refine wpList_load_mid rfl 79 _ rfl (w1.heap.size+1+1+1) 0 rfl (wlkU p) _ (by rw [← HW6.out];exact HRW6.out.range) Tryz.underlying79 rfl hsw.out ?_)
        | ((with_reducible show wpList _ _ _ (⟨some 47,_,_,_,_,_⟩::_) _ _);refine wpList_load_mid rfl 82 _ rfl wr.heap.size 0 rfl fs _ (by rw [← HW6.out];exact HR6.out.range) Tryz.underlying82 rfl hlf.out ?_))
       rw [← HW6.out]
       refine (bod_g (gU p l (j+1)) (gU_ok p l (j+1)) _ (clE 47 l[i].body) _ l[i] HVA.out w6 w6.heap.size w6.heap.size B N 0 fs nilS [.slice none 0 0,.slice none 0 0,.slice none 0 0] L hN (by omega) (Nat.le_refl _) HBB.out HS6.out.ult (Nat.le_refl _) HS6.out hOK.out (ScD.At.nil _ _ _ _) (HFD.out _ HB6.out)).mono ?_
       rintro e w7 ⟨rs7,rfl,_,_,hst7,hfu7,_⟩
       have HB7:=Hd (show Below w1.heap.size w1 w7 from HB6.out.trans (hfu7.low HB6.out.size (by show _≤p.b0;rw [HPB.out.1];exact Nat.le_refl _)))
       have HRW7:=Hd (show RowT 79 w7 (w1.heap.size+1+1+1) (wlkU p) from hfu7.row HRW6.out HRW6.out.lt (by decide) ⟨by show p.b0≤_;rw [HPB.out.1];omega,by show p.mo<_;rw [HPB.out.2.1];omega,by show p.tb<_;rw [HPB.out.2.2];omega⟩)
       have HWK7:=Hd (HWK.out.next HLJ.out)
       have HST7:=Hd (show StU p l (j+1) ((calF l i).foldl (pshU l) L) w7 by rw [HCF.out];exact hst7)
       clear hst7 hfu7
       go_wp2_with fail
       go_roundg (l.length-(j+1))
       case measure=>(have h1:=HGK.out;have h2:=HJL.out;omega)
       case rel=>exact ⟨j+1,_,rfl,HST7,HWK7,HRW7,HB7⟩
  ·obtain ⟨k,rfl⟩:∃ k',k=k'+1:=⟨k-1,by omega⟩
   have hki:((k+1:Nat):Int)-1=(k:Int):=by omega
   rw [hki]
   clear hki hk0
   have hlt:k<l.length:=by omega
   have hkl:(k:Int)<(l.length:Int):=by omega
   obtain ⟨b,o,rfl,hb,hget⟩:=HA.out.get (by intro h;rw [h] at hlt;simp at hlt)
   obtain ⟨fs,g1,g2⟩:=hget k hlt
   obtain ⟨pa,pc,es,gh⟩:=g2.has
   have hnm:=Hd (show (l[k]).name.size≤maxLen by have:=gh.hn;unfold maxLen;omega)
   have f0:=gh.name
   have HRF:=Hd (g1.below (HB.out.mono hB) hb)
   have HST:=Hd (str_at hlt)
   obtain ⟨nm,hnm0⟩:∃ s,l[k].name=s:=⟨_,rfl⟩
   rw [hnm0] at f0 hnm HST
   clear gh g1 g2 hget hnm0
   go_wp2_with fail
   refine wp_region_held_drew (S:=fun u=>RowT 116 u (w.heap.size+2) [.map (some (w.heap.size+1))]∧RowT 36 u w.heap.size cs∧CellsAt u b (o+k * 19) fs) (by kernel_rfl) ⟨HC.out,HR.out,HRF.out⟩ (fun hHeld=>?_)
   refine' tk 0 (.map (some (w.heap.size+1))) rfl rfl (.inl ⟨by rfl,fun u hu=>(by have hc:=hu.1.cell (j:=0) rfl;go_simp)⟩) hHeld ?_
   simp only [sq1,sq0]
   refine' tk 1 (.pointer (some ⟨w.heap.size,0,none⟩)) rfl rfl (.inl ⟨by rfl,fun u hu=>(by go_simp)⟩) hHeld ?_
   simp only [sq1,sq0]
   refine' tk 2 (.slice (some ⟨b,o,none⟩) l.length fc) rfl rfl (.inl ⟨by rfl,fun u hu=>(by have hc:=hu.2.1.cell HC0.out;go_simp)⟩) hHeld ?_
   simp only [sq1,sq0]
   refine' tk 3 (.int .i64 k) rfl rfl (.inl ⟨by rfl,fun u hu=>(by go_simp)⟩) hHeld ?_
   simp only [sq1,sq0]
   refine' tk 4 (.pointer (some ⟨b,o+k * 19,none⟩)) rfl rfl (.inl ⟨by rfl,fun u hu=>(by go_simp)⟩) hHeld ?_
   simp only [sq1,sq0]
   refine' tk 5 (.pointer (some ⟨b,o+k * 19,none⟩)) rfl rfl (.inl ⟨by rfl,fun u hu=>(by go_simp)⟩) hHeld ?_
   simp only [sq1,sq0]
   refine' tk 6 (.string nm) rfl rfl (.inl ⟨by rfl,fun u hu=>(by have hc:=hu.2.2.get0' f0;go_simp)⟩) hHeld ?_
   simp only [sq1,sq0]
   refine' tk 7 (.int .i64 k) rfl rfl (.inl ⟨by rfl,fun u hu=>(by go_simp)⟩) hHeld ?_
   simp only [sq1,sq0]
   refine rd1 8 rfl (fun K hK=>?_)
   rw [if_pos (by kernel_rfl)]
   refine wp_put_idxf _ _ _ rfl rfl (show IdxF w1.drew (w.heap.size+1) (l.length-(k+1)) (strs (nmsF l)) (k+1) from HI.out) (by unfold maxLen;omega) (by rw [strs_len];exact hlt) (by rw [strs_len];omega) nm HST.out rfl rfl hnm.out ?_
   intro w3 hi3 hg3
   have kp:∀ q,q≠w.heap.size+1→q<w1.heap.size→w3.heap[q]?=w1.heap[q]?:=fun q hq hq2=>hg3.block q hq2 (fun e=>hq (by simpa using e))
   have HI3:=Hd hi3
   have HB3:=Hd (show Below w.heap.size w w3 from HB.out.trans ⟨hg3.os,hg3.tape,hg3.output,hg3.size,fun q hq=>kp q (by omega) (by have:=HS.out;omega)⟩)
   have HS3:=Hd (show w.heap.size+2<w3.heap.size from Nat.lt_of_lt_of_le HS.out hg3.size)
   have HC3:=Hd (show RowT 116 w3 (w.heap.size+2) [.map (some (w.heap.size+1))] from (kp _ (by omega) HS.out).trans HC.out)
   have HR3:=Hd (show RowT 36 w3 w.heap.size cs from (kp _ (by omega) (by have:=HS.out;omega)).trans HR.out)
   have HRF3:=Hd (show CellsAt w3 b (o+k * 19) fs from fun j hj=>by
    rw [← HRF.out j hj]
    simp only [World.cell?]
    rw [kp b (by omega) (by have:=HS.out;omega)])
   refine hK.out _ _ ⟨HC3.out,HR3.out,HRF3.out⟩ (fun hHeldx=>?_)
   clear hK K hHeldx hHeld hi3 hg3 kp
   refine wpAnyH_done (by kernel_rfl) ?_ _
   go_wp2_with fail
   go_roundw
   case rel=>exact ⟨k,by omega,by go_num,Hd (by have h:=HI3.out;rwa [show l.length-(k+1)+1=l.length-k by omega] at h),HC3,HR3,HB3,HS3⟩
   case measure=>simp [intOf]
end Go.Proofs.YticpebgjbfanpaaGreatDoor

/- The names of the indices that module.used finds, sorted, are the sorted list of the names that are used. No program here. -/
namespace Go.Proofs.YticpebgjbfanpaaGreatDoor
open Go.RowKit Go.Maps
def nmI (l:List FuncD) (i:Nat):List UInt8:=(l.getD i default).name.data.toList
theorem nmI_at {l:List FuncD} {i:Nat} (h:i<l.length):nmI l i=l[i].name.data.toList:=by
 unfold nmI
 rw [List.getD_eq_getElem?_getD,List.getElem?_eq_getElem h]
 rfl
theorem nmI_inj {l:List FuncD} {x:ExprD} (h0:prgE l x=0) {i j:Nat} (hi:i<l.length) (hj:j<l.length) (h:nmI l i=nmI l j):i=j:=by
 rw [nmI_at hi,nmI_at hj] at h
 have e:=bytes_inj h
 have h1:=fn_own h0 hi
 have h2:=fn_own h0 hj
 rw [e,h2] at h1
 omega
theorem nmI_nodup {l:List FuncD} {x:ExprD} (h0:prgE l x=0):∀ {ii:List Nat},ii.Nodup→(∀ i∈ii,i<l.length)→(ii.map (nmI l)).Nodup
 | [],_,_=>List.nodup_nil
 | i::r,hn,hl=>by
   obtain ⟨h1,h2⟩:=List.nodup_cons.1 hn
   rw [List.map_cons,List.nodup_cons]
   refine ⟨fun h=>?_,nmI_nodup h0 h2 (fun j hj=>hl j (by simp [hj]))⟩
   obtain ⟨j,hj,e⟩:=List.mem_map.1 h
   have:=nmI_inj h0 (hl j (by simp [hj])) (hl i (by simp)) e
   subst this
   exact h1 hj
theorem compact_nodup {zs:List (List UInt8)} (h:zs.Nodup):Lib.compact zs=zs:=by
 refine Lib.compact_all zs (fun j hj=>?_)
 cases j with
 | zero=>simp [Lib.keeps]
 | succ j =>
   refine Lib.keeps_pos ?_
   have h1:(zs.toArray[j+1]!)=zs[j+1]:=by simp [hj]
   have h2:(zs.toArray[j+1-1]!)=zs[j]'(by omega):=by simp [show j<zs.length by omega]
   rw [h1,h2]
   intro e
   have:=(List.getElem_inj h).1 e
   omega
def backB (s:List UInt8):ByteArray:=⟨s.toArray⟩
theorem backB_map (zs:List (List UInt8)):(zs.map backB).map (·.data.toList)=zs:=by
 rw [List.map_map]
 exact (List.map_congr_left fun x _=>by rfl).trans (List.map_id _)
theorem used_names {l:List FuncD} {x:ExprD} (h0:prgE l x=0) {ii:List Nat} (hn:ii.Nodup) (hm:∀ i,i∈ii↔∃ s,Reach l x s∧fnIx l s=i) :
 ∃ L,UsedL l x L∧L.map (·.data.toList)=(ii.map (nmI l)).mergeSort (fun x y=>decide (x≤y))∧((ii.map (nmI l)).mergeSort (fun x y=>decide (x≤y))).Nodup:=by
 have hl:∀ i∈ii,i<l.length:=fun i hi=>by
  obtain ⟨s,_,h⟩:=(hm i).1 hi
  have:=(fnIx_range l s).2
  omega
 have hd:=(List.mergeSort_perm (ii.map (nmI l)) (fun x y=>decide (x≤y))).nodup_iff.2 (nmI_nodup h0 hn hl)
 have hs:=List.pairwise_mergeSort (le:=fun x y:List UInt8=>decide (x≤y)) (fun a b c h1 h2=>by simp at *;exact List.le_trans h1 h2) (fun a b=>by simp;exact List.le_total a b) (ii.map (nmI l))
 have hmem:=fun y=>(List.mergeSort_perm (ii.map (nmI l)) (fun x y=>decide (x≤y))).mem_iff (a:=y)
 generalize (ii.map (nmI l)).mergeSort (fun x y=>decide (x≤y))=zs at hd hs hmem ⊢
 refine ⟨zs.map backB,⟨?_,fun s=>?_⟩,backB_map zs,hd⟩
 ·rw [backB_map]
  refine (hs.and hd).imp fun {a b} h=>?_
  have h1:a≤b:=by simpa using h.1
  rcases List.le_iff_lt_or_eq.1 h1 with h2 | h2
  ·exact h2
  ·exact absurd h2 h.2
 ·rw [← mem_bytes,backB_map,hmem,List.mem_map]
  constructor
  ·rintro ⟨i,hi,e⟩
   obtain ⟨t,ht,hf⟩:=(hm i).1 hi
   have h1:=fn_nm (hl i hi) hf
   rw [nmI_at (hl i hi),h1] at e
   rw [← bytes_inj e]
   exact ht
  ·intro h
   have h1:=h.fn
   have h2:=(fnIx_range l s).2
   obtain ⟨i,hi⟩:∃ i:Nat,fnIx l s=i:=⟨(fnIx l s).toNat,by omega⟩
   have hil:i<l.length:=by omega
   exact ⟨i,(hm i).2 ⟨s,h,hi⟩,by rw [nmI_at hil,fn_nm hil hi]⟩
theorem usedI {l:List FuncD} {x:ExprD} (h0:prgE l x=0) {ii:List Nat} {L:List ByteArray} (hU:UsedL l x L) (hm:∀ i,i∈ii↔∃ s,Reach l x s∧fnIx l s=i) {k:Nat} (hk:k<l.length):decide (k∈ii)=memB L l[k].name:=by
 rw [Bool.eq_iff_iff,decide_eq_true_eq,memB_mem,hU.2,hm]
 constructor
 ·rintro ⟨s,h1,h2⟩
  rw [fn_nm hk h2]
  exact h1
 ·exact fun h=>⟨_,h,fn_own h0 hk⟩
end Go.Proofs.YticpebgjbfanpaaGreatDoor

/- module.Used: the names of the functions that are used, sorted. -/
namespace Go.Proofs.YticpebgjbfanpaaGreatDoor
open Go.RowKit Go.Maps Go.Sort
def MetI (D:DataW Unit) (left:Lit→Bool) (ii:List Nat):Prop:=ii.Nodup∧∀ i:Nat,i∈ii↔(Maps.has D (.int .i64 (i:Int))=true∧left (.int .i64 (i:Int))=false)
theorem MetI.start (D:DataW Unit):MetI D (Maps.has D) []:=⟨List.nodup_nil,fun i=>by cases Maps.has D (.int .i64 (i:Int))<;>simp⟩
theorem MetI.step {D:DataW Unit} {left:Lit→Bool} {ii:List Nat} (h:MetI D left ii) {i:Nat} {y:DataW Unit} (hlk:left (.int .i64 (i:Int))=true) (hat:∀ zd,D.atKey (.int .i64 (i:Int)) zd=y):MetI D (fun z=>left z&&!z.sameKey (.int .i64 (i:Int))) (ii++[i]):=by
 have hhas:Maps.has D (.int .i64 (i:Int))=true:=has_true_of_atKey hat
 have hnew:i ∉ ii:=fun hx=>by have:=((h.2 i).1 hx).2;rw [hlk] at this;cases this
 refine ⟨List.nodup_append.2 ⟨h.1,by simp,fun a ha b hb=>by simp at hb;subst hb;exact fun e=>hnew (e ▸ ha)⟩,fun j=>?_⟩
 by_cases hj:j=i
 ·subst hj;simp [hhas,Lit.sameKey]
 ·have hj2:¬ (j:Int)=(i:Int):=by omega
  simp [h.2 j,hj,Lit.sameKey,hj2]
theorem encU (l:List ByteArray):(l.map (·.data.toList)).map encStr=l.map Value.string:=by
 rw [List.map_map]
 exact List.map_congr_left fun x _=>rfl
set_option maxRecDepth 100000 in
set_option maxHeartbeats 6400000 in
theorem usedn_p (l:List FuncD) (x:ExprD) (fa:Option Addr) (fc:Nat) (ms cs:List Value) (w:World) (B N:Nat) (hN:N≤1048576) (hB:B≤w.heap.size) (hM:MaxC w) (h0:prgE l x=0) (hA:FuncsAt w B N l fa) (hx:ExprD.At w B N x ms) (hcs:cs=.slice fa l.length fc::ms) :
 Calls Tryz.prog 15 #[.agg cs.toArray] w (UsdR l x w):=by
 obtain ⟨i0,hi,hz0,hz1,hz2⟩:=info_parts infoSt
 have HI:=Hd hi
 have HZ0:=Hd hz0
 have HZ1:=Hd hz1
 have HZ2:=Hd hz2
 have hml:ms.length=17:=hx.len
 have hlc:=Hd (show (Tryz.prog.info? 36).map (·.size)=some cs.length by rw [hcs,List.length_cons,hml];kernel_rfl)
 have HC0:=Hd (show cs[0]?=some (.slice fa l.length fc) by rw [hcs];rfl)
 have HCS:=Hd hcs
 have HA:=Hd hA
 have HX:=Hd hx
 have HM:=Hd hM
 have H0:=Hd h0
 have hl256:l.length≤256:=(prg_all h0).1
 have RG:=Hd (RowT.new w 36 cs)
 have B1:=Hd (belowBox w (.cells cs.toArray 36))
 have hs1:=Hd (show (w.alloc (.cells cs.toArray 36)).heap.size=w.heap.size+1 from World.size_alloc _ _)
 clear hi hz0 hz1 hz2 hml hcs hA hx h0 hM
 go_enter Tryz.func15,Tryz.ntmps15
 go_wp2_with ((with_reducible show wpList _ _ _ (⟨some 5,_,_,_,_,_⟩::_) _ _);refine wpList_load_mid rfl 36 _ rfl w.heap.size 0 rfl cs _ RG.out.range Tryz.underlying36 rfl hlc.out ?_)
 refine (used_p l x fa fc ms cs _ B N hN (Nat.le_trans hB B1.out.size) (HM.out.then B1.out) H0.out (FuncsAt.below (B1.out.mono hB) _ HA.out) (HX.out.below (B1.out.mono hB)) HCS.out).mono ?_
 rintro e w2 ⟨mo,L,rfl,hset,hnd,hlim,hwk,hb2⟩
 obtain ⟨D,hown,hmap,hhas,hkeys,_⟩:=hset
 have HO:=Hd hown
 have HH:=Hd hhas
 have HK:=Hd hkeys
 have HLM:=Hd hlim
 have HWK:=Hd hwk
 have HB2:=Hd (belowThen B1.out hb2)
 have RG2:=Hd (RG.out.then hb2)
 have HLN:=Hd (show L.length≤256 from Nat.le_trans (lenN _ L hnd hlim) hl256)
 clear hown hhas hkeys hlim hwk hb2 hmap hnd
 go_wp2_with (at_range;refine wpList_range_own _ rfl _ 73 rfl 3 4 (int_keyed Tryz.underlying3) Tryz.underlying73 _ mo L.length D rfl HO.out ?_;intro w3 hrg3 hg3 hs3)
 go_frame
 have HRG3:=Hd hrg3
 have HG3:=Hd hg3
 have HMS:=Hd (show Maps.size D≤256 from Nat.le_trans HO.out.size_le HLN.out)
 have HN3:=Hd (show Below w2.heap.size w2 w3 from (Below.refl _ _).grown HG3.out (Nat.le_refl _) (fun j hj=>by cases hj))
 clear hrg3 hg3 hs3
 go_loopw [3] (fun v wr=>∃ (left:Lit→Bool) (cnt:Nat) (ii:List Nat),Hid (wr.ranges Tryz.prog 3 (plainElem Tryz.prog 4) mo w2.heap.size L.length D left cnt)∧Hid (ii.length+cnt≤Maps.size D) ∧
  Hid (wr.ownsRow w2.heap.size 9 1 v ii.length ((ii.map (nmI l)).map encStr))∧Hid (MetI D left ii)∧Hid (Below w2.heap.size w2 wr))
  (fun _ wr=>wr.rangeLeft mo w2.heap.size)
 case atStart=>exact ⟨_,_,[],HRG3,Hd (by simp),Hd (World.ownsRow_nil _ _ _ _),Hd (MetI.start D),HN3⟩
 case round =>
  clear HRG3 HG3 HN3
  obtain ⟨left,cnt,ii,HRG,HCS2,HROW,HC,HNX⟩:=hrel
  go_wp2_with (first
   | (at_next;refine wpList_next_ranges _ rfl _ rfl 3 (int_keyed Tryz.underlying3) (plainElem Tryz.prog 4) (Value.int .i64) (fun v:Value=>v) (fun key kl hk=>by obtain ⟨x,hx,_⟩:=Maps.keyOf_int_inv Tryz.underlying3 hk;exact ⟨x,hx⟩) (fun v y hv=>⟨v,rfl⟩) mo w2.heap.size L.length _ _ _ rfl HRG.out ?_ ?_))
  ·intro hc0 hl0
   obtain ⟨R,hU,hR,hnz⟩:=used_names (ii:=ii) H0.out HC.out.1 (fun i=>by rw [HC.out.2 i,hl0,HH.out,← HWK.out.done];simp)
   have HU:=Hd hU
   have HR:=Hd hR
   have HNZ:=Hd hnz
   have HLEN:=Hd (show R.length=ii.length by have:=congrArg List.length hR;rwa [List.length_map,List.length_mergeSort,List.length_map] at this)
   clear hl0 hc0 hU hR hnz
   rcases HROW.out.2 with ⟨rfl,hz⟩ | ⟨g,cap,cur,rfl,hbase,hb,h1,h2,h3,h4⟩
   ·have HR0:=Hd (show R=[] from List.length_eq_zero_iff.1 (HLEN.out.trans hz))
    clear hz
    go_wp2_with fail
    refine (Tryz.slices_Sort_string_none none 0 _).mono ?_
    rintro e w7 ⟨rfl,rfl⟩
    go_wp2_with fail
    refine (Tryz.slices_Compact_string_empty none 0 _).mono ?_
    rintro e w7 ⟨rfl,rfl⟩
    go_wp2_with fail
    go_ret
    exact ⟨none,0,R,by rw [HR0.out];rfl,HU,Hd (.inl HR0.out),HB2.out.trans (HNX.out.mono HB2.out.size)⟩
   ·obtain ⟨ss,hss⟩:∃ ss,ss=ii.map (nmI l):=⟨_,rfl⟩
    rw [← hss] at h4 HR HNZ
    have hsl:ss.length=ii.length:=by rw [hss,List.length_map]
    rw [← hsl] at h1 h4 HLEN ⊢
    have HSL:=Hd hsl
    obtain ⟨zs,hzs⟩:∃ zs,zs=ss.mergeSort fun x y=>decide (x≤y):=⟨_,rfl⟩
    have HHO:=Hd (show Holds encStr wr g 0 ss.toArray from holds_of_block hb (by simpa using h4))
    have HGL:=Hd (Array.getElem?_eq_some_iff.1 hb).1
    have HOW:=fun n os=>ownsRow_sorted (n:=n) (os:=os) (ts:=ss.mergeSort fun x y=>decide (x≤y)) (by simp) hbase hb h1 h2 h3
    have HOW:=Hd HOW
    have HBS:=Hd hbase
    have HCAP:=Hd h1
    have hzl:zs.length=ss.length:=by rw [hzs,List.length_mergeSort]
    have HZL:=Hd hzl
    have HZS:=Hd hzs
    clear hb h1 h2 h3 h4 hbase hss hsl hzl hzs
    go_wp2_with fail
    refine (Tryz.slices_Sort_string g 0 cap ss wr HHO.out HGL.out (by have:=HCS2.out;have:=HMS.out;have:=HSL.out;omega)).mono ?_
    rintro e w7 ⟨rfl,nn,os,rfl⟩
    have ho:=HOW.out nn os
    rw [← HZS.out] at ho HR HNZ ⊢
    obtain ⟨w8,hw8⟩:∃ w8,w8=grow (putRow encStr (Sort.ahead wr nn) g 0 zs.toArray) os:=⟨_,rfl⟩
    have HG8:=Hd (show wr.grownBy w8 (some g) by rw [hw8];exact grownBy_sorted _)
    rw [← hw8] at ho ⊢
    have HO8:=Hd ho
    have hH8:Holds encStr w8 g 0 zs.toArray:=by
     rcases ho.2 with ⟨h,_⟩ | ⟨g',cap',cur',hv,_,hb',_,_,_,h4'⟩
     ·cases h
     ·injection hv with q1 q2 q3
      injection q1 with q1
      injection q1 with q1
      subst q1
      exact holds_of_block hb' (by rw [HZL.out];simpa using h4')
    have HH8:=Hd hH8
    clear hw8 ho hH8
    go_wp2_with fail
    rw [← HZL.out]
    refine (Tryz.slices_Compact_string g 0 cap zs w8 HH8.out (by have:=HCS2.out;have:=HMS.out;have:=HSL.out;have:=HZL.out;omega) (by rw [HZL.out];exact HCAP.out)).mono ?_
    rw [compact_nodup HNZ.out,Nat.sub_self,List.replicate_zero,List.append_nil]
    rintro e w9 ⟨rfl,q,rfl⟩
    rw [putRow_self encStr (Sort.ahead w8 q) g 0 zs.toArray (holds_ahead encStr w8 q g 0 _ HH8.out)]
    go_wp2_with fail
    go_ret
    have ho:=HO8.out
    have hmv:zs.map encStr=R.map Value.string:=by rw [← HR.out,encU]
    rw [hmv,← HLEN.out] at ho
    obtain ⟨a,c,hv,_,_,hn⟩:=nms_own ho (Nat.zero_le _)
    cases hv
    exact ⟨some ⟨g,0,none⟩,cap,R,by rw [HLEN.out,HZL.out];rfl,HU,Hd hn,HB2.out.trans (((HNX.out.grown HG8.out HNX.out.size (fun j hj=>by cases hj;exact HBS.out)).trans (show Below w2.heap.size w8 (Sort.ahead w8 q) from ⟨rfl,rfl,rfl,Nat.le_refl _,fun _ _=>rfl⟩)).mono HB2.out.size)⟩
  ·intro i c kl yd yp w4 cnt2 hkey hlk hv hat hrg4 hlt hg4 hs4 hen
   obtain ⟨x',ex,rfl,_⟩:=Maps.keyOf_int_inv Tryz.underlying3 hkey
   cases ex
   obtain ⟨i,hiL,hik⟩:=HK.out _ (has_true_of_atKey hat)
   cases hik
   have hil:i<l.length:=HLM.out i hiL
   have hil2:(i:Int)<(l.length:Int):=by omega
   have HR4:=Hd (HROW.out.kept hg4 (Or.inr (row_ne_iter HROW.out HRG.out).symm))
   have HC4:=Hd (HC.out.step hlk hat)
   have HRG4:=Hd hrg4
   have HLT:=Hd hlt
   have HN4:=Hd (HNX.out.grown hg4 HNX.out.size (fun j hj=>by cases hj;exact Nat.le_refl _))
   obtain ⟨b,o,rfl,hb,hget⟩:=HA.out.get (by intro h;rw [h] at hil;simp at hil)
   obtain ⟨fs,g1,g2⟩:=hget i hil
   obtain ⟨pa,pc,es,gh⟩:=g2.has
   have f0:=(g1.below ((belowThen HB2.out HN4.out).mono hB) hb).get0' gh.name
   have p0:=(RG2.out.then HN4.out).cell HC0.out
   have HNM:=Hd (show encStr (nmI l i)=.string l[i].name by rw [nmI_at hil])
   clear hs4 hkey hlk hv hat hrg4 hlt hg4 g1 g2 gh hget hiL
   go_wp2_with (first
    | (at_builtin;refine wpList_append_own _ rfl _ _ 55 rfl w2.heap.size 9 i0 (.string ⟨#[]⟩) 1 16 Tryz.underlying55 HI.out HZ0.out HZ1.out HZ2.out rfl (by decide) _ _ _ rfl (HR4.out.alloc _) ⟨w4.heap.size,0,none⟩ 1 1 [.string l[i].name] rfl rfl (cell_one_new _ _ _) (by simp [Value.oneCell']) (by have:=HCS2.out;have:=HMS.out;have:=HLT.out;unfold maxLen;omega) (by have:=HCS2.out;have:=HMS.out;have:=HLT.out;omega) (by have:=HN4.out.size;rw [World.size_alloc];omega) ?_;intro v' w5 hown' hg5 hnil5;go_frame))
   have hrg5:=(HRG4.out.alloc _).kept hg5 (row_ne_low HR4.out (by have:=HO.out.lt;omega)) (row_ne_iter HR4.out HRG4.out)
   go_roundw
   case rel =>
    refine ⟨_,cnt2,ii++[i],Hd hrg5,Hd (by have:=HCS2.out;have:=HLT.out;simp;omega),Hd (by rw [List.map_append,List.map_append,List.map_cons,List.map_nil,List.map_cons,List.map_nil,HNM.out];simpa using hown'),HC4,Hd ?_⟩
    exact (HN4.out.alloc HN4.out.size _).grown hg5 (by have:=HN4.out.size;rw [World.size_alloc];omega) (fun j hj=>(HR4.out.lt j hj).1)
   case measure=>rw [hrg5.left_eq,HRG.out.left_eq];exact HLT.out
end Go.Proofs.YticpebgjbfanpaaGreatDoor
