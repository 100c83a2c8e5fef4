/- module.Trim: the program with the functions that are used, its error else. -/
import Derived.Test.YticpebgjbfanpaaGreatDoorGA
import Derived.Test.YticpebgjbfanpaaGreatDoorNA
import Derived.Test.YticpebgjbfanpaaGreatDoorKC
namespace Go.Proofs.YticpebgjbfanpaaGreatDoor
open Go.RowKit
theorem UsdP.names {l:List FuncD} {x:ExprD} {L:List Nat} (h0:prgE l x=0) (hn:L.Nodup) (hw:WorkI l x L L.length):∃ U,UsedL l x U∧∀ k (hk:k<l.length),decide (k∈L)=memB U l[k].name:=by
 obtain ⟨U,hU,_,_⟩:=used_names h0 hn hw.done
 exact ⟨U,hU,fun k hk=>usedI h0 hU hw.done hk⟩
theorem safe_two {HB p q:Nat} {a b:World} {xs ys:Array Value} (h:Below a.heap.size a b) (hp:p<HB) (hq:q<HB):Keep HB none a ((b.setRow p xs).setRow q ys):=by
 refine ⟨by simpa using h.size,fun k h1 h2 _=>?_⟩
 rw [setRow_other _ _ _ _ (by omega),setRow_other _ _ _ _ (by omega)]
 exact h.block k h2
set_option maxRecDepth 100000 in
set_option maxHeartbeats 12800000 in
theorem trim_p (l:List FuncD) (x:ExprD) (fa:Option Addr) (fc:Nat) (ms cs:List Value) (w:World) (B N:Nat) (hN:N≤1048576) (h4:4≤B) (hB:B≤w.heap.size) (hE:Env w) (hT:TabAt w) (hsl:smlF l) (hsx:smlE x) (hA:FuncsAt w B N l fa) (hx:ExprD.At w B N x ms) (hcs:cs=.slice fa l.length fc::ms) :
 Calls Tryz.prog 11 #[.agg cs.toArray] w (TrmR N l x w):=by
 have hml:ms.length=17:=hx.len
 have HML:=Hd hml
 have HMS:=Hd (show (cs.drop 1).take 17=ms by rw [hcs];exact List.take_of_length_le (show ms.length≤17 by omega))
 have hlm:=Hd (show (Tryz.prog.info? 34).map (·.size)=some ms.length by rw [hml];exact sizeE)
 have hlc:=Hd (show (Tryz.prog.info? 36).map (·.size)=some cs.length by rw [hcs,List.length_cons,hml];exact sizePR)
 have HC0:=Hd (show cs[0]?=some (.slice fa l.length fc) by rw [hcs];rfl)
 have HCS:=Hd hcs
 have HA:=Hd hA
 have HX:=Hd hx
 have HT:=Hd hT
 have HE:=Hd hE
 have HSL:=Hd hsl
 have HSX:=Hd hsx
 have RG0:=(RowT.new w 36 cs).alloc (.cells #[.slice none 0 0,.int .i64 0,.string ⟨#[]⟩,.int .i64 0,.bool false,.bool false,.string ⟨#[]⟩,.int .i64 0,.int .i64 0,.int .i64 0,.int .i64 0,.int .i64 0,.string ⟨#[]⟩,.slice none 0 0,.slice none 0 0,.slice none 0 0,.slice none 0 0,.slice none 0 0] 36)
 have RZ0:=RowT.new (w.alloc (.cells cs.toArray 36)) 36 zeroPR
 rw [World.size_alloc] at RZ0
 obtain ⟨w1,hw1⟩:∃ w1,w1=(w.alloc (.cells cs.toArray 36)).alloc (.cells #[.slice none 0 0,.int .i64 0,.string ⟨#[]⟩,.int .i64 0,.bool false,.bool false,.string ⟨#[]⟩,.int .i64 0,.int .i64 0,.int .i64 0,.int .i64 0,.int .i64 0,.string ⟨#[]⟩,.slice none 0 0,.slice none 0 0,.slice none 0 0,.slice none 0 0,.slice none 0 0] 36):=⟨_,rfl⟩
 rw [← hw1] at RG0
 have RG:=Hd RG0
 have RZ:=Hd (show RowT 36 w1 (w.heap.size+1) zeroPR by rw [hw1];exact RZ0)
 have H1:=Hd (show Below w.heap.size w w1 by rw [hw1];exact belowThen (belowBox w _) (belowBox _ _))
 have HW:=Hd hw1
 clear hcs hx hA hT hE hsl hsx hml RG0 RZ0 hw1
 go_enter Tryz.func11,Tryz.ntmps11
 go_wp2_with ((with_reducible show wpList _ _ _ (⟨some 12,_,_,_,_,_⟩::_) _ _);refine wpList_load_mid rfl 36 _ rfl w.heap.size 0 rfl cs _ (by rw [← HW.out];exact RG.out.range) Tryz.underlying36 rfl hlc.out ?_)
 rw [← HW.out]
 refine (chk_p l x fa fc ms cs w1 B N hN h4 (Nat.le_trans hB H1.out.size) (HE.out.then H1.out) (HT.out.below H1.out) HSL.out HSX.out (FuncsAt.below (H1.out.mono hB) _ HA.out) (HX.out.below (H1.out.mono hB)) HCS.out).mono ?_
 rintro e w2 ⟨rfl,hb2⟩
 have H2:=Hd (belowThen H1.out hb2)
 have RG2:=Hd (RG.out.then hb2)
 have RZ2:=Hd (RZ.out.then hb2)
 clear hb2 HW RG RZ H1
 by_cases h0:prgE l x=0
 case neg =>
  obtain ⟨k,hk⟩:∃ k,prgE l x=k:=⟨_,rfl⟩
  have HK:=Hd hk
  rw [hk] at h0 ⊢
  have n0:(k != 0)=true:=by simpa using h0
  have HN0:=Hd h0
  clear hk h0
  go_wp2_with ((with_reducible show wpList _ _ _ (⟨none,.store 36 (.tmp 2) (.tmp 16),_,_,_,_⟩::_) _ _);refine wpList_store_row rfl 36 _ _ rfl (w.heap.size+1) zeroPR.toArray rfl rfl 36 zeroPR.toArray RZ2.out sizePR rfl zeroPR_one ?_)
  refine bodyPost_ret (results_cell_row2 rfl _ _ (w.heap.size+1) 36 zeroPR.toArray (0,0) _ rfl (RZ2.out.setRow zeroPR) Tryz.underlying36 rfl sizePR) rfl ?_
  exact ⟨zeroPR,k,[],zeroE,rfl,Hd HK.out.symm,Hd ⟨none,0,zeroEL,rfl,trivial,zeroE_at _ _ _⟩,Hd ⟨fun _=>⟨rfl,rfl⟩,fun h=>absurd h HN0.out⟩,below_setRow H2.out (by omega) _⟩
 have H0:=Hd h0
 rw [h0]
 clear h0
 go_wp2_with ((with_reducible show wpList _ _ _ (⟨some 18,_,_,_,_,_⟩::_) _ _);refine wpList_load_mid rfl 36 _ rfl w.heap.size 0 rfl cs _ RG2.out.range Tryz.underlying36 rfl hlc.out ?_)
 refine (used_p l x fa fc ms cs w2 B N hN (Nat.le_trans hB H2.out.size) (MaxC.then HE.out.max H2.out) H0.out (FuncsAt.below (H2.out.mono hB) _ HA.out) (HX.out.below (H2.out.mono hB)) HCS.out).mono ?_
 rintro e w3 ⟨mo,L,rfl,hset,hnd,hlim,hwk,hb3⟩
 obtain ⟨U,hU,hUm⟩:=UsdP.names H0.out hnd hwk
 have HSI:=Hd hset
 have HUL:=Hd hU
 have HUM:=Hd hUm
 have HP:=Hd (prg_all H0.out)
 have hl256:l.length≤256:=HP.out.1
 have H3:=Hd (belowThen H2.out hb3)
 have RG3:=Hd (RG2.out.then hb3)
 have RZ3:=Hd (RZ2.out.then hb3)
 clear hb3 hset hnd hlim hwk hU hUm RG2 RZ2 H2
 go_wp2_with ((with_reducible show wpList _ _ _ (⟨some 20,_,_,_,_,_⟩::_) _ _);refine wpList_load_mid rfl 36 _ rfl w.heap.size 0 rfl cs _ RG3.out.range Tryz.underlying36 rfl hlc.out ?_)
 refine (resolve_p l fa fc cs w3 B N hN (by omega) (Nat.le_trans hB H3.out.size) (FuncsAt.below (H3.out.mono hB) _ HA.out) HC0.out).mono ?_
 rintro e wA ⟨ab,pb,rfl,hr1,hb⟩
 unfold rslV
 have H4:=Hd (belowThen H3.out hb)
 have RG4:=Hd (RG3.out.then hb)
 have RZ4:=Hd (RZ3.out.then hb)
 have HSI4:=Hd (HSI.out.block (hb.block _ HSI.out.lt))
 have HRS:=Hd (hr1.then (belowBox wA (.cells (wlkD ab pb).toArray 79)))
 clear hb hr1 RG3 RZ3 H3 HSI
 have hsw:=Hd (show (Tryz.prog.info? 79).map (·.size)=some (wlkD ab pb).length by kernel_rfl)
 have hsw2:=Hd (show (Tryz.prog.info? 79).map (·.size)=some (wlkD ab pb).toArray.size by kernel_rfl)
 have h2w:=Hd (show 2=(wlkD ab pb).toArray.size by rfl)
 have honeW:=Hd (show (wlkD ab pb).toArray.all (·.oneCell')=true from Go.all_oneCell_toArray (by intro u hu;simp [wlkD,rslV] at hu;rcases hu with rfl | rfl<;>rfl))
 obtain ⟨wB,hwB⟩:∃ wB,wB=wA.alloc (.cells (wlkD ab pb).toArray 79):=⟨_,rfl⟩
 have HSB:=Hd (show wB.heap.size=wA.heap.size+1 by rw [hwB];exact World.size_alloc _ _)
 have HBB:=Hd (show Below wA.heap.size wA wB by rw [hwB];exact belowBox wA _)
 have RW:=Hd (show RowT 79 wB wA.heap.size (wlkD ab pb) by rw [hwB];exact RowT.new wA 79 _)
 have HU2:=Hd hwB
 rw [← hwB] at HRS
 have H5:=Hd (belowThen H4.out HBB.out)
 have RG5:=Hd (RG4.out.then HBB.out)
 have RZ5:=Hd (RZ4.out.then HBB.out)
 have HSI5:=Hd (HSI4.out.block (HBB.out.block _ HSI4.out.lt))
 have HEW:=Hd (show EnvW ab pb l B N wB from ⟨HRS.out,HT.out.below H5.out,(HE.out.then H5.out).max⟩)
 have p0:=(RG5.out.alloc (.cells #[.slice none 0 0,.int .i64 0,.string ⟨#[]⟩,.int .i64 0,.bool false,.bool false,.string ⟨#[]⟩,.int .i64 0,.int .i64 0,.int .i64 0,.int .i64 0,.int .i64 0,.string ⟨#[]⟩,.slice none 0 0,.slice none 0 0,.slice none 0 0,.slice none 0 0,.slice none 0 0] 36)).cell HC0.out
 have hsb1:w.heap.size+1<wB.heap.size:=RZ5.out.lt
 clear hwB RG4 RZ4 H4 HSI4 HRS HBB
 go_wp2_with ((with_reducible show wpList _ _ _ (⟨none,.store 79 _ _,_,_,_,_⟩::_) _ _);refine wpList_store_new rfl 79 _ _ rfl _ (wlkD ab pb).toArray rfl rfl hsw2.out h2w.out honeW.out ?_;rw [← HU2.out])
 go_simp
 have RO:=Hd (show RowT 36 (wB.alloc (.cells #[.slice none 0 0,.int .i64 0,.string ⟨#[]⟩,.int .i64 0,.bool false,.bool false,.string ⟨#[]⟩,.int .i64 0,.int .i64 0,.int .i64 0,.int .i64 0,.int .i64 0,.string ⟨#[]⟩,.slice none 0 0,.slice none 0 0,.slice none 0 0,.slice none 0 0,.slice none 0 0] 36)) wB.heap.size (.slice none 0 0::zeroEL) from RowT.new wB 36 zeroPR)
 have HBC:=Hd (show Below wB.heap.size wB (wB.alloc (.cells #[.slice none 0 0,.int .i64 0,.string ⟨#[]⟩,.int .i64 0,.bool false,.bool false,.string ⟨#[]⟩,.int .i64 0,.int .i64 0,.int .i64 0,.int .i64 0,.int .i64 0,.string ⟨#[]⟩,.slice none 0 0,.slice none 0 0,.slice none 0 0,.slice none 0 0,.slice none 0 0] 36)) from belowBox wB _)
 have HSC:=Hd (show (wB.alloc (.cells #[.slice none 0 0,.int .i64 0,.string ⟨#[]⟩,.int .i64 0,.bool false,.bool false,.string ⟨#[]⟩,.int .i64 0,.int .i64 0,.int .i64 0,.int .i64 0,.int .i64 0,.string ⟨#[]⟩,.slice none 0 0,.slice none 0 0,.slice none 0 0,.slice none 0 0,.slice none 0 0] 36)).heap.size=wB.heap.size+1 from World.size_alloc _ _)
 obtain ⟨z0,hz0s,hinfo⟩:=infoFN
 obtain ⟨i0,hi,hz0,hz1,hz2⟩:=info_parts hinfo
 have HI:=Hd hi
 have HZ0:=Hd hz0
 have HZ1:=Hd hz1
 have HZ2:=Hd hz2
 have HZS:=Hd hz0s
 clear hi hz0 hz1 hz2 hz0s hinfo p0
 go_loopw [26] (fun i wr=>∃ (k:Nat) (v:Value) (xs:List Value),k≤l.length∧i=.int .i64 k∧Hid (RowT 36 wr wB.heap.size (v::zeroEL))∧Hid (wr.ownsRow (wB.heap.size+1) 82 19 v (usedF U (l.take k)).length xs) ∧
  Hid (∀ j (hj:j<(usedF U (l.take k)).length),Safe (wB.heap.size+1) v.ownBlock wr (fun c=>FuncD.At c c.heap.size N (usedF U (l.take k))[j] ((xs.drop (j * 19)).take 19)))∧Hid (Below wB.heap.size wB wr)) (fun i _=>l.length-(intOf i).toNat)
 case atStart=>exact ⟨0,.slice none 0 0,[],by omega,rfl,RO,Hd (World.ownsRow_nil _ _ _ _),Hd (fun j hj=>by simp [usedF] at hj),HBC⟩
 case round =>
  clear RO HBC HSC
  obtain ⟨k,v,xs,hk,rfl,HR,HO,HF,HBr⟩:=hrel
  have RWr:=Hd (RW.out.then HBr.out)
  by_cases hlt:k<l.length
  case neg =>
   obtain rfl:k=l.length:=by omega
   have HVX:=Hd (err_valid HP.out.2.1)
   have hOK:=Hd (okA_T ab pb l B N wB.heap.size 47 x nilS HVX.out.1 HVX.out.2 GsOk.nil HP.out.2.2.1)
   have HST:=Hd (show StT ab pb l B N wB.heap.size [] wr from ⟨wB,HEW.out,rfl,HBr.out⟩)
   have HXr:=Hd (HX.out.below ((belowThen H5.out HBr.out).mono hB))
   have HBBr:=Hd (Nat.le_trans hB H5.out.size)
   go_wp2_with (first
    | ((with_reducible show wpList _ _ _ (⟨some 49,_,_,_,_,_⟩::_) _ _);refine wpList_load_mid rfl 79 _ rfl wA.heap.size 0 rfl (wlkD ab pb) _ RWr.out.range Tryz.underlying79 rfl hsw.out ?_)
    | ((with_reducible show wpList _ _ _ (⟨some 51,_,_,_,_,_⟩::_) _ _);refine wpList_load_mid rfl 34 _ rfl w.heap.size 1 rfl ms _ ((RG5.out.then HBr.out).cells.part HMS.out) Tryz.underlying34 rfl hlm.out ?_))
   refine (vig_all (gT ab pb l B N wB.heap.size) (gT_ok ab pb l B N wB.heap.size) 47 x HVX.out.1 HVX.out.2 wr wB.heap.size wB.heap.size B N 0 ms nilS [.slice none 0 0,.slice none 0 0,.slice none 0 0] [] hN (by omega) HBr.out.size HBBr.out ⟨Nat.le_refl _,by show 0<_;omega,by show 0<_;omega⟩ HBr.out.size HST.out hOK.out (ScD.At.nil _ _ _ _) HXr.out).mono ?_
   rintro e w5 ⟨rs,rfl,hl5,ho5,_,hfu,hsf⟩
   have hb5:Below wr.heap.size wr w5:=hfu.off id
   have HB5:=Hd hb5
   have HSF:=Hd (hsf id)
   have R5:=Hd (HR.out.then hb5)
   have RZ6:=Hd ((RZ5.out.then HBr.out).then hb5)
   have hlr:=Hd (show (Tryz.prog.info? 34).map (·.size)=some rs.length by rw [hl5];exact sizeE)
   have hnew:=Hd (show (v::rs:List Value)=(v::zeroEL).take 1++rs++(v::zeroEL).drop (1+rs.length) by
    rw [hl5]
    show _=[v]++rs++[]
    simp)
   have hfit:=Hd (show 1+rs.length≤(v::zeroEL).length by rw [hl5];exact (by decide:1+17≤18))
   have ho1:=Hd (show ∀ u∈rs,u.oneCell'=true from fun u hu=>List.all_eq_true.1 (by simpa using ho5) u hu)
   have hv1:v.oneCell'=true:=by obtain ⟨a',c',hv⟩:=own_slice HO.out;rw [hv];rfl
   have hlf2:=Hd (show (Tryz.prog.info? 36).map (·.size)=some (v::rs:List Value).length by rw [List.length_cons,hl5];exact sizePR)
   have hlf3:=Hd (show (Tryz.prog.info? 36).map (·.size)=some (v::rs:List Value).toArray.size by rw [List.size_toArray];exact hlf2.out)
   have hlf4:=Hd (show zeroPR.toArray.size=(v::rs:List Value).toArray.size by show 18=_;rw [List.size_toArray,List.length_cons,hl5])
   have hlf5:=Hd (show (v::rs:List Value).toArray.all (·.oneCell')=true from Go.all_oneCell_toArray (fun u hu=>by rcases List.mem_cons.1 hu with rfl | hu;exact hv1;exact ho1.out u hu))
   have R6:=Hd (R5.out.setRow (v::rs))
   have RZ7:=Hd (RZ6.out.setRowOther (b':=wB.heap.size) (by omega) (v::rs:List Value).toArray)
   clear hl5 ho5 hfu hsf hb5 hv1
   go_wp2_with (first
    | ((with_reducible show wpList _ _ _ (⟨none,.store 34 (.tmp 56) (.tmp 54),_,_,_,_⟩::_) _ _);refine wpList_store_at rfl 34 _ _ rfl wB.heap.size 1 rs rfl rfl 36 (v::zeroEL) (v::rs) R5.out hlr.out hnew.out hfit.out ho1.out ?_)
    | ((with_reducible show wpList _ _ _ (⟨some 57,_,_,_,_,_⟩::_) _ _);refine wpList_load_mid rfl 36 _ rfl wB.heap.size 0 rfl (v::rs) _ R6.out.range Tryz.underlying36 rfl hlf2.out ?_)
    | ((with_reducible show wpList _ _ _ (⟨none,.store 36 (.tmp 2) (.tmp 57),_,_,_,_⟩::_) _ _);refine wpList_store_row rfl 36 _ _ rfl (w.heap.size+1) (v::rs:List Value).toArray rfl rfl 36 zeroPR.toArray RZ7.out hlf3.out hlf4.out hlf5.out ?_))
   refine bodyPost_ret (results_cell_row2 rfl _ _ (w.heap.size+1) 36 (v::rs:List Value).toArray (0,0) _ rfl (RZ7.out.setRow (v::rs)) Tryz.underlying36 rfl hlf3.out) rfl ?_
   have htk:l.take l.length=l:=List.take_length
   rw [htk] at HO HF
   obtain ⟨ad,cp,rfl,hfa⟩:=funcs_safe (G:=fun _=>True) (N:=N) (l:=usedF U l) HO.out rfl (Nat.le_refl _) (fun j hj=>(HF.out j hj).mono (fun _ h _=>h))
   have hK1:=safe_two (HB:=wB.heap.size+1) (p:=wB.heap.size) (q:=w.heap.size+1) (xs:=(.slice ad (usedF U l).length cp::rs:List Value).toArray) (ys:=(.slice ad (usedF U l).length cp::rs:List Value).toArray) HB5.out (by omega) (by omega)
   have hK2:=safe_two (HB:=wr.heap.size) (p:=wB.heap.size) (q:=w.heap.size+1) (xs:=(.slice ad (usedF U l).length cp::rs:List Value).toArray) (ys:=(.slice ad (usedF U l).length cp::rs:List Value).toArray) (Below.refl w5.heap.size w5) HR.out.lt (by have:=HR.out.lt;omega)
   refine ⟨_,0,usedF U l,x,rfl,Hd H0.out.symm,Hd ⟨ad,cp,rs,rfl,hfa _ hK1 trivial,HSF.out _ hK2⟩,Hd ⟨fun h=>absurd rfl h,fun _=>⟨U,HUL.out,rfl,rfl⟩⟩,below_setRow (below_setRow ((belowThen H5.out HBr.out).trans (HB5.out.mono (belowThen H5.out HBr.out).size)) (by omega) _) (by omega) _⟩
  have p0:=(RG5.out.then HBr.out).cell HC0.out
  obtain ⟨b,o,rfl,hb,hget⟩:=HA.out.get (by intro h;simp [h] at hlt)
  obtain ⟨fs,g1,g2⟩:=hget k hlt
  have HFL:=Hd (show fs.length=19 from g2.len)
  have hlf:=Hd (show (Tryz.prog.info? 82).map (·.size)=some fs.length by rw [HFL.out];exact sizeFN)
  have hlf2:=Hd (show (Tryz.prog.info? 82).map (·.size)=some fs.toArray.size by rw [List.size_toArray,HFL.out];exact sizeFN)
  have h19:=Hd (show 19=fs.toArray.size by rw [List.size_toArray,HFL.out])
  have hone:=Hd (show fs.toArray.all (·.oneCell')=true by obtain ⟨_,_,_,gh⟩:=g2.has;exact Go.all_oneCell_toArray gh.one)
  have HFR:=Hd (show ∀ u,Below wB.heap.size wB u→CellsAt u b (o+k * 19) fs from fun u hu=>g1.below ((belowThen H5.out hu).mono hB) hb)
  have HFD:=Hd (show ∀ u,Below wB.heap.size wB u→FuncD.At u B N l[k] fs from fun u hu=>FuncD.At.below ((belowThen H5.out hu).mono hB) _ g2)
  have HST:=Hd (usedF_step U l hlt)
  have HB1:=Hd (show Below wB.heap.size wB (wr.alloc (.cells fs.toArray 82)) from belowThen HBr.out (belowBox wr _))
  have HSI1:=Hd (HSI5.out.block (HB1.out.block _ HSI5.out.lt))
  have hk20:k≤1048576:=by omega
  have HDC:=Hd (HUM.out k hlt)
  clear g1 g2 hget
  cases hm:memB U l[k].name
  case false =>
   have HS2:=Hd (show usedF U (l.take (k+1))=usedF U (l.take k) by rw [HST.out,hm];simp)
   have HD2:=Hd (HDC.out.trans hm)
   clear hm
   go_wp2_with (first
    | ((with_reducible show wpList _ _ _ (⟨some 30,_,_,_,_,_⟩::_) _ _);refine wpList_load_mid rfl 82 _ rfl b (o+k * 19) rfl fs _ (HFR.out _ HBr.out).range Tryz.underlying82 rfl hlf.out ?_)
    | ((with_reducible show wpList _ _ _ (⟨none,.store 82 (.tmp 9) (.tmp 30),_,_,_,_⟩::_) _ _);refine wpList_store_new rfl 82 _ _ rfl _ fs.toArray rfl rfl hlf2.out h19.out hone.out ?_)
    | ((with_reducible show wpList _ _ _ (⟨some 33,_,_,_,_,_⟩::_) _ _);refine wpList_look_seti rfl _ _ rfl rfl HSI1.out k hk20 rfl false HD2.out ?_))
   have hO2:=Hd (HO.out.alloc (.cells fs.toArray 82))
   have hR2:=Hd (HR.out.alloc (.cells fs.toArray 82))
   go_roundw
   case rel=>exact ⟨k+1,v,xs,by omega,by go_num,hR2,by rw [HS2.out];exact hO2,by rw [HS2.out];exact Hd (fun j hj=>(HF.out j hj).next (keep_below (belowBox wr _) (Nat.le_refl _)) (fun q _ h=>.inl h)),HB1⟩
   case measure=>simp [intOf];omega
  have HS2:=Hd (show usedF U (l.take (k+1))=usedF U (l.take k)++[l[k]] by rw [HST.out,hm];simp)
  have HD2:=Hd (HDC.out.trans hm)
  clear hm
  have hPK:=HP.out.2.2.2 k hlt
  have hVX:=err_valid hPK.2.1
  have hgp:GsOk (nilS.par l[k].params):=GsOk.nil.par (prm_col (head_prm hPK.1))
  have hOK:=Hd (okA_T ab pb l B N wB.heap.size 47 l[k].body (nilS.par l[k].params) hVX.1 hVX.2 hgp hPK.2.2)
  have HVA:=Hd (vig_all (gT ab pb l B N wB.heap.size) (gT_ok ab pb l B N wB.heap.size) 47 l[k].body hVX.1 hVX.2)
  have HSTT:=Hd (show StT ab pb l B N wB.heap.size [] (wr.alloc (.cells fs.toArray 82)) from ⟨wB,HEW.out,rfl,HB1.out⟩)
  have RW1:=Hd (RWr.out.alloc (.cells fs.toArray 82))
  have RF1:=Hd (RowT.new wr 82 fs)
  have HS1:=Hd (show (wr.alloc (.cells fs.toArray 82)).heap.size=wr.heap.size+1 from World.size_alloc _ _)
  have HBBr:=Hd (Nat.le_trans hB H5.out.size)
  clear hPK hVX hgp
  go_wp2_with (first
   | ((with_reducible show wpList _ _ _ (⟨some 30,_,_,_,_,_⟩::_) _ _);refine wpList_load_mid rfl 82 _ rfl b (o+k * 19) rfl fs _ (HFR.out _ HBr.out).range Tryz.underlying82 rfl hlf.out ?_)
   | ((with_reducible show wpList _ _ _ (⟨none,.store 82 (.tmp 9) (.tmp 30),_,_,_,_⟩::_) _ _);refine wpList_store_new rfl 82 _ _ rfl _ fs.toArray rfl rfl hlf2.out h19.out hone.out ?_)
   | ((with_reducible show wpList _ _ _ (⟨some 33,_,_,_,_,_⟩::_) _ _);refine wpList_look_seti rfl _ _ rfl rfl HSI1.out k hk20 rfl true HD2.out ?_)
   | ((with_reducible show wpList _ _ _ (⟨some 35,_,_,_,_,_⟩::_) _ _);refine wpList_load_mid rfl 79 _ rfl wA.heap.size 0 rfl (wlkD ab pb) _ RW1.out.range Tryz.underlying79 rfl hsw.out ?_)
   | ((with_reducible show wpList _ _ _ (⟨some 36,_,_,_,_,_⟩::_) _ _);refine wpList_load_mid rfl 82 _ rfl wr.heap.size 0 rfl fs _ RF1.out.range Tryz.underlying82 rfl hlf.out ?_))
  refine (bod_g (gT ab pb l B N wB.heap.size) (gT_ok ab pb l B N wB.heap.size) _ (clE 47 l[k].body) _ l[k] HVA.out _ wB.heap.size wB.heap.size B N 0 fs nilS [.slice none 0 0,.slice none 0 0,.slice none 0 0] [] hN (by omega) HB1.out.size HBBr.out ⟨Nat.le_refl _,by show 0<_;omega,by show 0<_;omega⟩ HB1.out.size HSTT.out hOK.out (ScD.At.nil _ _ _ _) (HFD.out _ HB1.out)).mono ?_
  rintro e u3 ⟨rs5,rfl,hl5,ho5,_,hfu5,hsf5⟩
  have hb3:Below (wr.alloc (.cells fs.toArray 82)).heap.size (wr.alloc (.cells fs.toArray 82)) u3:=hfu5.off id
  have HW3:=Hd (show Below wr.heap.size wr (u3.alloc (.cells rs5.toArray 82)) from belowThen (belowThen (belowBox wr _) hb3) (belowBox u3 _))
  have HR4:=Hd (HR.out.then HW3.out)
  have HO4:=Hd (own_then HO.out HW3.out)
  have SF5:=Hd (hsf5 id)
  have HSZ5:=Hd hb3.size
  have hl52:=Hd (show (Tryz.prog.info? 82).map (·.size)=some rs5.toArray.size by rw [List.size_toArray,hl5];exact sizeFN)
  have hl53:=Hd (show (Tryz.prog.info? 82).map (·.size)=some rs5.length by rw [hl5];exact sizeFN)
  have hl54:=Hd (show 19=rs5.toArray.size by rw [List.size_toArray,hl5])
  have HO5:=Hd ho5
  have RF4:=Hd (RowT.new u3 82 rs5)
  have HOB:=Hd (show ∀ q,v.ownBlock=some q→q<wr.heap.size from fun q hq=>(HO.out.lt q hq).2)
  obtain ⟨n,hn⟩:∃ n,(usedF U (l.take k)).length=n:=⟨_,rfl⟩
  have HN:=Hd hn
  have hUn:n≤256:=by rw [← hn];exact Nat.le_trans (usedF_le U (l.take k)) (by rw [List.length_take];omega)
  rw [hn] at HO4
  have HA3:=Hd (show ∀ u∈rs5,u.oneCell'=true from fun u hu=>List.all_eq_true.1 (by simpa using ho5) u hu)
  have HA4:=Hd (show n+1≤maxLen by unfold maxLen;omega)
  have HA5:=Hd (show (n+1) * 280≤140737488355328 by omega)
  have HA6:=Hd (show wB.heap.size+1≤((u3.alloc (.cells rs5.toArray 82)).alloc (.cells rs5.toArray 82)).heap.size by
   have h1:=HW3.out.size
   have h2:=HR.out.lt
   rw [World.size_alloc (u3.alloc (.cells rs5.toArray 82))]
   omega)
  have z16:(u3.alloc (.cells rs5.toArray 82)).cell? ⟨wB.heap.size,0,none⟩=some v:=HR4.out.cell (j:=0) rfl
  have HSR:=Hd (show SrcAt ((u3.alloc (.cells rs5.toArray 82)).alloc (.cells rs5.toArray 82)) (some ⟨u3.heap.size+1,0,none⟩) 1 rs5 by have:=src_new (u3.alloc (.cells rs5.toArray 82)) rs5 82 1;rwa [World.size_alloc] at this)
  have hfz:=fold_zip0 rs5 #[.string ⟨#[]⟩,.slice none 0 0,.int .i64 0,.string ⟨#[]⟩,.int .i64 0,.bool false,.bool false,.string ⟨#[]⟩,.int .i64 0,.int .i64 0,.int .i64 0,.int .i64 0,.int .i64 0,.string ⟨#[]⟩,.slice none 0 0,.slice none 0 0,.slice none 0 0,.slice none 0 0,.slice none 0 0] (by rw [hl5];rfl)
  have HL5:=Hd (show rs5.length=1 * 19 from hl5)
  have HXS:=Hd HO.out.1
  have HL9:=Hd hl5
  clear hfu5 hsf5 ho5 hb3 hn p0
  go_wp2_with (first
   | (at_builtin;refine wpList_append_lies _ rfl _ _ 22 rfl (wB.heap.size+1) 82 i0 (.agg z0) 19 280 Tryz.underlying22 HI.out HZ0.out HZ1.out HZ2.out HZS.out (by decide) v n xs rfl (HO4.out.alloc _) ⟨u3.heap.size+1,0,none⟩ 1 1 rs5 rfl HL5.out (HSR.out.2 _ rfl) HA3.out (by decide) HA4.out HA5.out HA6.out _ rfl ?_)
   | ((with_reducible show wpList _ _ _ (⟨some 43,_,_,_,_,_⟩::_) _ _);refine wpList_load_mid rfl 82 _ rfl u3.heap.size 0 rfl rs5 _ RF4.out.range Tryz.underlying82 rfl hl53.out ?_)
   | ((with_reducible show wpList _ _ _ (⟨none,.store 82 (.tmp 10) (.tmp 39),_,_,_,_⟩::_) _ _);refine wpList_store_new rfl 82 _ _ rfl _ rs5.toArray rfl rfl hl52.out hl54.out HO5.out ?_))
  intro a6 c6 u6 hown6 hg6 hlie7 hlt6
  have hlie6:v.ownBlock=some a6∨a6=((u3.alloc (.cells rs5.toArray 82)).alloc (.cells rs5.toArray 82)).heap.size:=by rw [World.size_alloc,World.size_alloc];exact hlie7
  have hne6:∀ q,v.ownBlock=some q→wB.heap.size+1≤q:=fun q hq=>(HO.out.lt q hq).1
  have hr6:RowT 36 u6 wB.heap.size (v::zeroEL):=(hg6.block wB.heap.size ((HR4.out.alloc (.cells rs5.toArray 82)).lt) (fun e=>by have:=hne6 _ e.symm;omega)).trans (HR4.out.alloc (.cells rs5.toArray 82))
  have f6:=hr6.frozen 0
  have q6:=hr6.cell (j:=0) (v:=v) rfl
  have hB6:Below wB.heap.size wB u6:=(belowThen (belowThen HBr.out HW3.out) (belowBox _ _)).grown hg6 (by have:=(belowThen (belowThen HBr.out HW3.out) (belowBox (u3.alloc (.cells rs5.toArray 82)) (.cells rs5.toArray 82))).size;exact this) (fun j hj=>by have:=hne6 j hj;omega)
  have HR7:=Hd (show RowT 36 (u6.setCell ⟨wB.heap.size,0,none⟩ (.slice (some ⟨a6,0,none⟩) (n+1) c6)) wB.heap.size (.slice (some ⟨a6,0,none⟩) (n+1) c6::zeroEL) from hr6.set 0 _)
  have HB7:=Hd (below_set (j:=0) hB6 (Nat.le_refl _) (.slice (some ⟨a6,0,none⟩) (n+1) c6))
  have HO7:=Hd (own_cell (g:=wB.heap.size) (j:=0) (u:=(.slice (some ⟨a6,0,none⟩) (n+1) c6)) hown6 (fun q hq=>by have:=(hown6.lt q hq).1;omega))
  have HF7:=Hd (show ∀ j (hj:j<(usedF U (l.take k)++[l[k]]).length),Safe (wB.heap.size+1) (Value.ownBlock (.slice (some ⟨a6,0,none⟩) (n+1) c6)) (u6.setCell ⟨wB.heap.size,0,none⟩ (.slice (some ⟨a6,0,none⟩) (n+1) c6)) (fun c=>FuncD.At c c.heap.size N (usedF U (l.take k)++[l[k]])[j] (((xs++rs5).drop (j * 19)).take 19)) from fun j hj=>by
   have hj2:j<n+1:=by rw [List.length_append,HN.out] at hj;simpa using hj
   rw [drop_take_append19 (n:=n) (by rw [← HN.out];exact HXS.out) HL9.out hj2]
   split
   ·rename_i hjn
    rw [List.getElem_append_left (by rw [HN.out];exact hjn)]
    exact ((HF.out j (by rw [HN.out];exact hjn)).next (no2:=v.ownBlock) (keep_below HW3.out (Nat.le_refl _)) (fun q _ h=>.inl h)).next (grow_keep hg6 (Nat.lt_succ_self _)) (lie_new hlie6)
   ·rename_i hjn
    rw [List.getElem_append_right (by rw [HN.out];omega)]
    have e:(usedF U (l.take k)++[l[k]]).length=n+1:=by rw [List.length_append,HN.out];rfl
    simp only [List.getElem_singleton]
    exact grow_child (L:=(wr.alloc (.cells fs.toArray 82)).heap.size) (SF5.out.next (no2:=none) (keep_below (belowBox u3 _) (Nat.le_refl _)) (fun _ _ h=>by cases h)) (by rw [HS1.out];have:=HR.out.lt;omega) (fun q hq=>by rw [HS1.out];have:=HOB.out q hq;omega) hg6 hlie6 (by rw [HS1.out];have:=HR.out.lt;omega))
  clear hown6 hg6 hlie6 hlie7 hlt6 hr6 hB6 z16 hfz hne6 hl5
  go_wp2_with fail
  go_roundw
  case rel =>
   refine ⟨k+1,_,xs++rs5,by omega,by go_num,HR7,?_,?_,HB7⟩
   ·rw [HS2.out,List.length_append,HN.out];exact HO7
   ·simp only [HS2.out];exact HF7
  case measure=>simp [intOf];omega
end Go.Proofs.YticpebgjbfanpaaGreatDoor
