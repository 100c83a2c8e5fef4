/- datakitref43.Expr gives the expression of a selection (printed by genexr43.py). -/
import Derived.Test.YtiefeajappjnbaaGreatDoorGA
import Derived.Test.YtiefeajappjnbaaGreatDoorNB
import Derived.Test.YtiefeajappjnbaaGreatDoorNA
import Derived.Test.YtiefeajappjnbaaGreatDoorHF
namespace Go.Proofs.YtiefeajappjnbaaGreatDoor
open Go.RowKit
def Ea (ds:ByteArray) (e:Nat) (w:World) (en:Ending) (w':World):Prop:=en=.returned (.agg #[.int .i64 2,.bool false,.bool false,.string ds,.int .i64 (e:Int),.int .i64 0,.int .i64 0,.int .i64 0,.int .i64 0,.string ⟨#[]⟩,.slice none 0 0,.slice none 0 0,.slice none 0 0])∧Below w.heap.size w w'
theorem BM (n:Nat) (hn:n≤65536) {ds:ByteArray} {e:Nat} (h1:aS (aw n).1=ds) (h2:(aw n).2=e) (w:World):Calls Tryz.prog 132 #[.int .i64 n] w (Ea ds e w):=by
 subst h1
 subst h2
 refine (Dc n hn w).mono ?_
 rintro en w' ⟨rfl,hb⟩
 exact ⟨rfl,hb⟩
set_option maxRecDepth 100000 in
set_option maxHeartbeats 6400000 in
theorem Ag (a:Option Addr) (c:Nat) (w:World) (N:Nat):Calls Tryz.prog 88 #[.slice a 0 c] w (AJ N (aX []) w):=by
 have Z0:=Hd (aq.new w 34 ai)
 have B0:=Hd (af w (.cells ai.toArray 34))
 go_enter Tryz.func88,Tryz.ntmps88
 go_wp2_with fail
 refine (s4 _).mono ?_
 rintro e w1 ⟨rfl,hb1⟩
 have Z1:=Hd (Z0.out.then hb1)
 have B1:=Hd (ae B0.out hb1)
 clear hb1 Z0 B0
 go_wp2_with ((with_reducible show wpList _ _ _ (⟨none,.store 34 (.tmp 2) (.tmp 8),_,_,_,_⟩::_) _ _);refine aD rfl 34 _ _ rfl w.heap.size 0 (aT 1 ⟨#[]⟩ (.slice none 0 0)) rfl rfl 34 ai (aT 1 ⟨#[]⟩ (.slice none 0 0)) Z1.out (by kernel_rfl) rfl (Nat.le_refl 17) (bw _ _ rfl) ?_)
 refine bodyPost_ret (results_cell_row rfl _ _ w.heap.size 34 (aT 1 ⟨#[]⟩ (.slice none 0 0)).toArray (0,0) _ rfl (Z1.out.setRow _) Tryz.underlying34 rfl (by kernel_rfl)) rfl ?_
 exact ⟨_,rfl,l8 _ _ _,below_setRow B1.out (Nat.le_refl _) _⟩
set_option maxRecDepth 100000 in
set_option maxHeartbeats 12800000 in
theorem Cm (B N:Nat) (hN:N≤1048576) (hN1:20≤N):∀ (n:Nat) (l:List aL) (a:Option Addr) (c:Nat) (w:World),l.length=n→B≤w.heap.size→n≤48→n≤c→l.all aW=true→bB w B N l a→Calls Tryz.prog 88 #[.slice a n c] w (AJ N (aX l) w):=by
 intro n
 induction n with
 | zero =>
   intro l a c w hl _ _ _ _ _
   obtain rfl:=List.length_eq_zero_iff.1 hl
   exact Ag a c w N
 | succ n ih =>
   intro l a c w hl hB hn hc hp hA
   have HIH:=Hd (ih (l.take n) a c)
   have HTL:=Hd (show (l.take n).length=n by rw [List.length_take];omega)
   have HTP:=Hd (show (l.take n).all aW=true from List.all_eq_true.2 fun x hx=>List.all_eq_true.1 hp x (List.mem_of_mem_take hx))
   have HTA:=Hd (hA.take (n:=n))
   obtain ⟨b,o,rfl,hb,hget⟩:=hA.get (by intro h;rw [h] at hl;simp at hl)
   have hlt:n<l.length:=by omega
   obtain ⟨hkz,g1⟩:=hget n hlt
   have hpr:=List.all_eq_true.1 hp l[n] (List.getElem_mem hlt)
   have hstep:=mh hlt
   rw [show l.take (n+1)=l from List.take_of_length_le (by omega)] at hstep
   obtain ⟨s,hs⟩:∃ s,l[n]=s:=⟨_,rfl⟩
   rw [hs] at hkz g1 hpr hstep
   have HST:=Hd hstep
   have HPR:=Hd hpr
   obtain ⟨se,hse⟩:∃ v,s.each=v:=⟨_,rfl⟩
   obtain ⟨sb,hsb⟩:∃ v,s.byIdx=v:=⟨_,rfl⟩
   obtain ⟨sk,hsk⟩:∃ v,s.key=v:=⟨_,rfl⟩
   obtain ⟨si,hsi⟩:∃ v,s.index=v:=⟨_,rfl⟩
   have HSE:=Hd hse
   have HSB:=Hd hsb
   have HSK:=Hd hsk
   have HSI:=Hd hsi
   have HB0:=Hd (af w (.cells zE0 34))
   have HG:=Hd (show aj (w.alloc (.cells zE0 34)) b (o+n * 4) [.bool se,.bool sb,.string sk,.int .i64 si] by
    have:=g1.below (HB0.out.mono hB) hb
    rwa [po,hse,hsb,hsk,hsi] at this)
   have hkn:=Hd (show sk.size≤N by rw [← hsk];exact hkz)
   have hsub:(((n+1:Nat):Int)-1)=(n:Int):=by omega
   have hsub2:((n:Int)+1-1)=(n:Int):=by omega
   obtain ⟨wB,hwB⟩:∃ wB,wB=(w.alloc (.cells zE0 34)).alloc (.cells #[.bool se,.bool sb,.string sk,.int .i64 si] 94):=⟨_,rfl⟩
   have BB:=Hd (show Below w.heap.size w wB by rw [hwB];exact ae HB0.out (af _ _))
   have ZB:=Hd (show aq 34 wB w.heap.size ai by rw [hwB];exact (aq.new w 34 ai).alloc _)
   have TB:=Hd (show aq 94 wB (w.heap.size+1) [.bool se,.bool sb,.string sk,.int .i64 si] by
    have h:=aq.new (w.alloc (.cells zE0 34)) 94 [.bool se,.bool sb,.string sk,.int .i64 si]
    rw [World.size_alloc] at h
    rw [hwB];exact h)
   have hsB:=Hd (show wB.heap.size=w.heap.size+2 by rw [hwB,World.size_alloc,World.size_alloc])
   have HWB:=Hd hwB
   have hNm:=Hd (show 2≤N by omega)
   have hN20:=Hd hN1
   clear hs hse hsb hsk hsi g1 hget hkz hpr hstep hwB ih hA hp HB0
   go_enter Tryz.func88,Tryz.ntmps88
   go_wp2_with ((with_reducible show wpList _ _ _ (⟨some 14,_,_,_,_,_⟩::_) _ _);refine wpList_load_mid rfl 94 _ rfl b (o+n * 4) rfl [.bool se,.bool sb,.string sk,.int .i64 si] _ HG.out.range Tryz.underlying94 rfl cP ?_)
   rw [← HWB.out]
   refine (HIH.out wB HTL.out (by rw [hsB.out];omega) (by omega) (by omega) HTP.out (bB.below (BB.out.mono hB) _ HTA.out)).mono ?_
   rintro e w1 ⟨row,rfl,hsf,hb1⟩
   have hlen:=hsf.1
   have hlr:=Hd (show (Tryz.prog.info? 34).map (·.size)=some row.length by rw [hlen];kernel_rfl)
   have hlr2:=Hd (show (Tryz.prog.info? 34).map (·.size)=some row.toArray.size by rw [List.size_toArray,hlen];kernel_rfl)
   have hlr3:=Hd (show bH.size=row.toArray.size by show 17=_;rw [List.size_toArray,hlen])
   have hone:=Hd (show row.toArray.all (·.oneCell')=true from Go.all_oneCell_toArray hsf.2.1)
   have hln:=Hd hlen
   have HBX:=Hd (af w1 (.cells row.toArray 34))
   obtain ⟨wC,hwC⟩:∃ wC,wC=w1.alloc (.cells row.toArray 34):=⟨_,rfl⟩
   have BC:=Hd (show Below w.heap.size w wC by rw [hwC];exact ae (ae BB.out hb1) HBX.out)
   have ZC:=Hd (show aq 34 wC w.heap.size ai by rw [hwC];exact (ZB.out.then hb1).alloc _)
   have TC:=Hd (show aq 94 wC (w.heap.size+1) [.bool se,.bool sb,.string sk,.int .i64 si] by rw [hwC];exact (TB.out.then hb1).alloc _)
   have RC:=Hd (show aq 34 wC w1.heap.size row by rw [hwC];exact aq.new w1 34 row)
   have SC:=Hd (show bV (w.heap.size+1) N (aX (l.take n)) row wC by rw [hwC];exact (hsf.wide (by rw [hsB.out];omega)).below (af _ _))
   have hs1:=Hd (show w.heap.size+2≤w1.heap.size by have:=hb1.size;rw [hsB.out] at this;exact this)
   have hsC:=Hd (show wC.heap.size=w1.heap.size+1 by rw [hwC,World.size_alloc])
   have HWC:=Hd hwC
   clear hwC hsf hb1 hlen ZB TB BB HWB hsub hsub2
   have d0:=TC.out.cell (j:=0) (v:=.bool se) rfl
   have d1:=TC.out.cell (j:=1) (v:=.bool sb) rfl
   have d2:=TC.out.cell (j:=2) (v:=.string sk) rfl
   have d3:=TC.out.cell (j:=3) (v:=.int .i64 si) rfl
   cases se
   case true =>
    obtain ⟨fl,hfl⟩:∃ fl,[row].flatten=fl:=⟨_,rfl⟩
    have HFL:=Hd hfl
    clear hfl
    have HN:=Hd (show bV (w.heap.size+1) N (aX l) (aT 8 ⟨#[]⟩ (.slice (some ⟨wC.heap.size,0,none⟩) 1 1)) (wC.alloc (.cells fl.toArray 34)) by
     rw [HST.out,lF HSE.out,← HFL.out,show [row].flatten=row by simp]
     exact SC.out.one (by rw [hsC.out];have:=hs1.out;omega) (op:=8) (op_n:=8) (nm:=⟨#[]⟩) rfl (by decide) (Nat.zero_le _) hNm.out)
    have BD:=Hd (ae BC.out (af wC (.cells fl.toArray 34)))
    have ZD:=Hd (ZC.out.alloc (.cells fl.toArray 34))
    go_wp2_with (first
     | ((with_reducible show wpList _ _ _ (⟨none,.store 34 (.tmp 4) (.tmp 20),_,_,_,_⟩::_) _ _);refine ak rfl 34 _ _ rfl bH row.toArray rfl rfl hlr2.out hlr3.out hone.out ?_;rw [← HWC.out])
     | ((with_reducible show wpList _ _ _ (⟨some 24,_,_,_,_,_⟩::_) _ _);refine wpList_load_mid rfl 34 _ rfl w1.heap.size 0 rfl row _ RC.out.range Tryz.underlying34 rfl hlr.out ?_)
     | ((with_reducible show wpList _ _ _ (⟨some 25,_,_,_,_,_⟩::_) _ _);refine dN rfl [row] fl HFL.out 1 _ rfl rfl (by decide) (by decide) (by intro r hr;simp at hr;rw [hr];exact hln.out) (by rw [List.map_toArray];rfl) ?_)
     | ((with_reducible show wpList _ _ _ (⟨none,.store 34 (.tmp 2) (.tmp 26),_,_,_,_⟩::_) _ _);refine aD rfl 34 _ _ rfl w.heap.size 0 (aT 8 ⟨#[]⟩ (.slice (some ⟨wC.heap.size,0,none⟩) 1 1)) rfl rfl 34 ai (aT 8 ⟨#[]⟩ (.slice (some ⟨wC.heap.size,0,none⟩) 1 1)) ZD.out (by kernel_rfl) rfl (Nat.le_refl 17) (bw _ _ rfl) ?_))
    refine bodyPost_ret (results_cell_row rfl _ _ w.heap.size 34 (aT 8 ⟨#[]⟩ (.slice (some ⟨wC.heap.size,0,none⟩) 1 1)).toArray (0,0) _ rfl (ZD.out.setRow _) Tryz.underlying34 rfl (by kernel_rfl)) rfl ?_
    exact ⟨_,rfl,(HN.out.keep (eT (by omega) _)).wide (by omega),below_setRow BD.out (Nat.le_refl _) _⟩
   cases sb
   case false =>
    obtain ⟨fl,hfl⟩:∃ fl,[row].flatten=fl:=⟨_,rfl⟩
    have HFL:=Hd hfl
    clear hfl
    have HN:=Hd (show bV (w.heap.size+1) N (aX l) (aT 5 sk (.slice (some ⟨wC.heap.size,0,none⟩) 1 1)) (wC.alloc (.cells fl.toArray 34)) by
     rw [HST.out,mZ HSE.out HSB.out,HSK.out,← HFL.out,show [row].flatten=row by simp]
     exact SC.out.one (by rw [hsC.out];have:=hs1.out;omega) (op:=5) (op_n:=5) (nm:=sk) rfl (by decide) hkn.out hNm.out)
    have BD:=Hd (ae BC.out (af wC (.cells fl.toArray 34)))
    have ZD:=Hd (ZC.out.alloc (.cells fl.toArray 34))
    go_wp2_with (first
     | ((with_reducible show wpList _ _ _ (⟨none,.store 34 (.tmp 4) (.tmp 20),_,_,_,_⟩::_) _ _);refine ak rfl 34 _ _ rfl bH row.toArray rfl rfl hlr2.out hlr3.out hone.out ?_;rw [← HWC.out])
     | ((with_reducible show wpList _ _ _ (⟨some 42,_,_,_,_,_⟩::_) _ _);refine wpList_load_mid rfl 34 _ rfl w1.heap.size 0 rfl row _ RC.out.range Tryz.underlying34 rfl hlr.out ?_)
     | ((with_reducible show wpList _ _ _ (⟨some 43,_,_,_,_,_⟩::_) _ _);refine dN rfl [row] fl HFL.out 1 _ rfl rfl (by decide) (by decide) (by intro r hr;simp at hr;rw [hr];exact hln.out) (by rw [List.map_toArray];rfl) ?_)
     | ((with_reducible show wpList _ _ _ (⟨none,.store 34 (.tmp 2) (.tmp 44),_,_,_,_⟩::_) _ _);refine aD rfl 34 _ _ rfl w.heap.size 0 (aT 5 sk (.slice (some ⟨wC.heap.size,0,none⟩) 1 1)) rfl rfl 34 ai (aT 5 sk (.slice (some ⟨wC.heap.size,0,none⟩) 1 1)) ZD.out (by kernel_rfl) rfl (Nat.le_refl 17) (bw _ _ rfl) ?_))
    refine bodyPost_ret (results_cell_row rfl _ _ w.heap.size 34 (aT 5 sk (.slice (some ⟨wC.heap.size,0,none⟩) 1 1)).toArray (0,0) _ rfl (ZD.out.setRow _) Tryz.underlying34 rfl (by kernel_rfl)) rfl ?_
    exact ⟨_,rfl,(HN.out.keep (eT (by omega) _)).wide (by omega),below_setRow BD.out (Nat.le_refl _) _⟩
   obtain ⟨hix0,hix1⟩:=lO HSE.out HSB.out HPR.out
   rw [HSI.out] at hix0 hix1
   obtain ⟨m,hm⟩:∃ m:Nat,si=(m:Int):=⟨si.toNat,by omega⟩
   subst hm
   have hm16:m≤65536:=by omega
   have HIX:=Hd (show s.index.toNat=m by rw [HSI.out];exact Int.toNat_natCast m)
   clear hix0 hix1
   obtain ⟨ds,hds⟩:∃ ds,aS (aw m).1=ds:=⟨_,rfl⟩
   obtain ⟨e,he⟩:∃ e,(aw m).2=e:=⟨_,rfl⟩
   have HDS:=Hd hds
   have HEX:=Hd he
   have HLL:=Hd (show eS m=dq ds e by unfold eS;rw [hds,he])
   clear hds he
   obtain ⟨fl,hfl⟩:∃ fl,[row,dq ds e].flatten=fl:=⟨_,rfl⟩
   have HFL:=Hd hfl
   clear hfl
   go_wp2_with ((with_reducible show wpList _ _ _ (⟨none,.store 34 (.tmp 4) (.tmp 20),_,_,_,_⟩::_) _ _);refine ak rfl 34 _ _ rfl bH row.toArray rfl rfl hlr2.out hlr3.out hone.out ?_;rw [← HWC.out])
   refine wp_region_held_drew (S:=fun wu=>Below w.heap.size wC wu∧aq 94 wu (w.heap.size+1) [.bool false,.bool true,.string sk,.int .i64 m]∧aq 34 wu w1.heap.size row) (by kernel_rfl) ⟨(b7 wC).mono BC.out.size,TC.out,RC.out⟩ (fun hHeld=>?_)
   refine' tk 0 _ rfl rfl (yieldsIf_load_mid (by kernel_rfl) 34 _ rfl (w1.heap.size) (0) rfl row _ (fun u hu=>hu.2.2.range) Tryz.underlying34 rfl hlr.out) hHeld ?_
   simp only [sq1,sq0]
   refine' tk 1 (.pointer (some ⟨w.heap.size+1,1,none⟩)) rfl rfl (.inl ⟨by rfl,fun u hu=>(by go_simp)⟩) hHeld ?_
   simp only [sq1,sq0]
   refine' tk 2 (.pointer (some ⟨w.heap.size+1,3,none⟩)) rfl rfl (.inl ⟨by rfl,fun u hu=>(by go_simp)⟩) hHeld ?_
   simp only [sq1,sq0]
   refine' tk 3 (.int .i64 m) rfl rfl (.inl ⟨by rfl,fun u hu=>(by have hc:=hu.2.1.cell (j:=3) (v:=.int .i64 m) rfl;go_simp)⟩) hHeld ?_
   simp only [sq1,sq0]
   refine rd1 4 rfl (fun K hK=>?_)
   go_simp
   refine (BM m hm16 HDS.out HEX.out _).mono ?_
   rintro en uC ⟨rfl,hbC⟩
   have hC:Below wC.heap.size wC uC:=(b7 wC).trans hbC
   have RU:=Hd (RC.out.then hC)
   have ZU:=Hd (ZC.out.then hC)
   have BU:=Hd (ae BC.out hC)
   have SU:=Hd (SC.out.below hC)
   have TU:=Hd (TC.out.then hC)
   have HC:=Hd (hC.mono BC.out.size)
   have hsU:=Hd (show w.heap.size+3≤uC.heap.size by have:=hC.size;rw [hsC.out] at this;have:=hs1.out;omega)
   refine hK.out _ _ ⟨HC.out,TU.out,RU.out⟩ (fun hHeld1=>?_)
   clear hK K hHeld1 hbC hC hHeld
   refine rd1 5 rfl (fun K hK=>?_)
   go_simp
   refine hK.out _ _ ⟨HC.out,TU.out,RU.out⟩ (fun hHeld1=>?_)
   clear hK K hHeld1
   refine rd1 6 rfl (fun K hK=>?_)
   rw [if_pos (by kernel_rfl)]
   refine eo [row,dq ds e] fl HFL.out 2 _ rfl rfl (by decide) (by decide) (by intro r hr;simp at hr;rcases hr with rfl | rfl;exact hln.out;rfl) (by rw [List.map_toArray];rfl) ?_
   simp only [List.getElem_toArray,List.getElem_cons_succ,List.getElem_cons_zero,Act.put]
   have BD:=Hd (HC.out.alloc (show w.heap.size≤uC.heap.size by have:=hsU.out;omega) (.cells fl.toArray 34))
   refine hK.out _ _ ⟨BD.out,TU.out.alloc _,RU.out.alloc _⟩ (fun hHeld1=>?_)
   clear hK K hHeld1
   refine rd1 7 rfl (fun K hK=>?_)
   go_simp
   refine hK.out _ _ ⟨BD.out,TU.out.alloc _,RU.out.alloc _⟩ (fun hHeld1=>?_)
   clear hK K hHeld1
   refine rd1 8 rfl (fun K hK=>?_)
   rw [if_pos (by kernel_rfl)]
   refine bn 34 _ _ rfl w.heap.size 0 (aT 6 ⟨#[]⟩ (.slice (some ⟨uC.heap.size,0,none⟩) 2 2)) rfl rfl 34 ai (aT 6 ⟨#[]⟩ (.slice (some ⟨uC.heap.size,0,none⟩) 2 2)) (ZU.out.alloc _) (by kernel_rfl) rfl (Nat.le_refl 17) (bw _ _ rfl) ?_
   simp only [List.getElem_toArray,List.getElem_cons_succ,List.getElem_cons_zero,Act.put]
   refine hK.out _ _ ⟨below_setRow BD.out (Nat.le_refl _) _,(TU.out.alloc _).setRowOther (by omega) _,(RU.out.alloc _).setRowOther (by have:=hs1.out;omega) _⟩ (fun hHeld1=>?_)
   clear hK K hHeld1
   refine wpAnyH_done (by kernel_rfl) ?_ _
   have HN:=Hd (show bV (w.heap.size+1) N (aX l) (aT 6 ⟨#[]⟩ (.slice (some ⟨uC.heap.size,0,none⟩) 2 2)) (uC.alloc (.cells fl.toArray 34)) by
    rw [HST.out,ki HSE.out HSB.out,HIX.out,← HFL.out,← HLL.out,show [row,eS m].flatten=row++eS m by simp]
    exact SU.out.two (l3 _ N m uC hm16 hN20.out) (by have:=hsU.out;omega) (op:=6) (op_n:=6) (nm:=⟨#[]⟩) rfl (by decide) (Nat.zero_le _) hNm.out)
   have B9:=Hd (ae BU.out (af uC (.cells fl.toArray 34)))
   have Z9:=Hd (ZU.out.alloc (.cells fl.toArray 34))
   go_wp2_with fail
   refine bodyPost_ret (results_cell_row rfl _ _ w.heap.size 34 (aT 6 ⟨#[]⟩ (.slice (some ⟨uC.heap.size,0,none⟩) 2 2)).toArray (0,0) _ rfl (Z9.out.setRow _) Tryz.underlying34 rfl (by kernel_rfl)) rfl ?_
   exact ⟨_,rfl,(HN.out.keep (eT (by omega) _)).wide (by omega),below_setRow B9.out (Nat.le_refl _) _⟩
end Go.Proofs.YtiefeajappjnbaaGreatDoor

/- The reference's Same of any value and the zero value; its zero, absent; Same of a body and the expression of the input (printed by genzer43r.py). -/
namespace Go.Proofs.YtiefeajappjnbaaGreatDoor
open Go.RowKit
def zvA:Array Value:=#[.int .i64 0,.bool false,.bool false,.string ⟨#[]⟩,.int .i64 0,.int .i64 0,.int .i64 0,.int .i64 0,.int .i64 0,.string ⟨#[]⟩,.slice none 0 0,.slice none 0 0,.slice none 0 0]
set_option maxRecDepth 100000 in
set_option maxHeartbeats 12800000 in
theorem ui (v:ar) (hz:bj v=false) (w:World) (B N:Nat) (cs:List Value) (hN:N≤1048576) (hB:B≤w.heap.size) (hv:ar.At w B N v cs):Calls Tryz.prog 83 #[.agg cs.toArray,.agg zvA] w (cq false w):=by
 have E1:=xW v.num ⟨false,⟨#[]⟩,0⟩
 have E2:=rK v.time ⟨0,0,0,0⟩
 have G1:=dw
 have G2:=dE
 have H0:=Hd (show Below w.heap.size w ((w.alloc (.cells cs.toArray 30)).alloc (.cells zvA 30)) from ae (af w _) (af _ _))
 have R0:=Hd (show aj ((w.alloc (.cells cs.toArray 30)).alloc (.cells zvA 30)) w.heap.size 0 cs from (aA w cs 30).then (af _ _) (by rw [World.size_alloc];omega))
 have R1:=Hd (show aj ((w.alloc (.cells cs.toArray 30)).alloc (.cells zvA 30)) (w.heap.size+1) 0 zvA.toList from by
  have:=aA (w.alloc (.cells cs.toArray 30)) zvA.toList 30
  rw [World.size_alloc] at this
  exact this)
 obtain ⟨ya,la,va,yc,lc,vc,hh⟩:=hv.has
 have Y1:=gF (hh.atBytes.below (H0.out.mono hB)) yc
 have HO:=Hd (show ¬ (v.kind=0∧v.bool=false∧eb v.num ⟨false,⟨#[]⟩,0⟩=true∧ed v.time ⟨0,0,0,0⟩=true∧v.text.toList=[]∧(v.bytes.length:Int)=0∧(v.list.length:Int)=0∧(v.fields.length:Int)=0) from fun g=>by
  rw [(iA v).2 g] at hz;cases hz)
 have hll:v.list.length≤1048576:=Nat.le_trans hh.own.2.2.2.2.2.2.2.2.2.1 hN
 have hfl:v.fields.length≤1048576:=Nat.le_trans hh.own.2.2.2.2.2.2.2.2.2.2 hN
 have c0:=R0.out.get0 hh.kind
 have c1:=R0.out.get0 hh.bool
 have c2:=R0.out.get0 hh.neg
 have c3:=R0.out.get0 hh.digits
 have c4:=R0.out.get0 hh.exp
 have c5:=R0.out.get0 hh.tkind
 have c6:=R0.out.get0 hh.day
 have c7:=R0.out.get0 hh.nano
 have c8:=R0.out.get0 hh.offset
 have c9:=R0.out.get0 hh.text
 have c10:=R0.out.get0 hh.bytes
 have c11:=R0.out.get0 hh.list
 have c12:=R0.out.get0 hh.fields
 have d0:=R1.out.get0 (j:=0) (v:=.int .i64 0) rfl
 have d1:=R1.out.get0 (j:=1) (v:=.bool false) rfl
 have d2:=R1.out.get0 (j:=2) (v:=.bool false) rfl
 have d3:=R1.out.get0 (j:=3) (v:=.string ⟨#[]⟩) rfl
 have d4:=R1.out.get0 (j:=4) (v:=.int .i64 0) rfl
 have d5:=R1.out.get0 (j:=5) (v:=.int .i64 0) rfl
 have d6:=R1.out.get0 (j:=6) (v:=.int .i64 0) rfl
 have d7:=R1.out.get0 (j:=7) (v:=.int .i64 0) rfl
 have d8:=R1.out.get0 (j:=8) (v:=.int .i64 0) rfl
 have d9:=R1.out.get0 (j:=9) (v:=.string ⟨#[]⟩) rfl
 have d10:=R1.out.get0 (j:=10) (v:=.slice none 0 0) rfl
 have d11:=R1.out.get0 (j:=11) (v:=.slice none 0 0) rfl
 have d12:=R1.out.get0 (j:=12) (v:=.slice none 0 0) rfl
 have Y2:∀ u,(convert 26 9 (.slice none 0 0)).run Tryz.prog u=.ok (.string ⟨#[]⟩) u:=fun u=>gF (w:=u) (B:=0) (l:=[]) (.inl rfl) 0
 clear hh hv hz hN
 obtain ⟨kd,hkd⟩:∃ x,v.kind=x:=⟨_,rfl⟩
 obtain ⟨bo,hbo⟩:∃ x,v.bool=x:=⟨_,rfl⟩
 obtain ⟨db,hdb⟩:∃ x,eb v.num ⟨false,⟨#[]⟩,0⟩=x:=⟨_,rfl⟩
 obtain ⟨tb,htb⟩:∃ x,ed v.time ⟨0,0,0,0⟩=x:=⟨_,rfl⟩
 obtain ⟨tx,htx⟩:∃ x,v.text=x:=⟨_,rfl⟩
 obtain ⟨bs,hbs⟩:∃ x,v.bytes=x:=⟨_,rfl⟩
 obtain ⟨n2,hn2⟩:∃ x,v.list.length=x:=⟨_,rfl⟩
 obtain ⟨n3,hn3⟩:∃ x,v.fields.length=x:=⟨_,rfl⟩
 rw [hkd] at HO c0
 rw [hbo] at HO c1
 rw [hdb] at HO E1
 rw [htb] at HO E2
 rw [htx] at HO c9
 rw [hbs] at HO c10 Y1
 rw [hn2] at HO c11 hll
 rw [hn3] at HO c12 hfl
 clear hkd hbo hdb htb htx hbs hn2 hn3
 by_cases h0:kd=0
 case neg =>
  have e1:(kd==0)=false:=by simpa using h0
  have e2:(kd != 0)=true:=by simpa using h0
  go_enter Tryz.func83,Tryz.ntmps83
  go_wp2_with fail
  go_ret
  exact ⟨rfl,H0.out⟩
 subst h0
 cases bo
 case true =>
  go_enter Tryz.func83,Tryz.ntmps83
  go_wp2_with fail
  go_ret
  exact ⟨rfl,H0.out⟩
 cases db
 case false =>
  go_enter Tryz.func83,Tryz.ntmps83
  go_wp2_with fail
  go_ret
  exact ⟨rfl,H0.out⟩
 cases tb
 case false =>
  go_enter Tryz.func83,Tryz.ntmps83
  go_wp2_with fail
  go_ret
  exact ⟨rfl,H0.out⟩
 by_cases h4:tx.toList=[]
 case neg =>
  have e1:(tx.toList==[])=false:=by simp [h4]
  have e2:(tx.toList != [])=true:=by simp [h4]
  have e3:tx.toList.isEmpty=false:=by simp [h4]
  go_enter Tryz.func83,Tryz.ntmps83
  go_wp2_with fail
  go_ret
  exact ⟨rfl,H0.out⟩
 have HT:=Hd h4
 by_cases h5:bs=[]
 case neg =>
  have hb5:(strOfNums bs).toList≠[]:=fun g=>by
   have:=(aH _).1 g
   rw [strOfNums_size] at this
   exact h5 (List.length_eq_zero_iff.1 this)
  obtain ⟨sb,hsb⟩:∃ x,strOfNums bs=x:=⟨_,rfl⟩
  rw [hsb] at Y1 hb5
  have e1:(sb.toList==[])=false:=by simp [hb5]
  have e2:(sb.toList != [])=true:=by simp [hb5]
  have e3:sb.toList.isEmpty=false:=by simp [hb5]
  clear hsb h5
  go_enter Tryz.func83,Tryz.ntmps83
  go_wp2_with fail
  go_ret
  exact ⟨rfl,H0.out⟩
 subst h5
 rw [List.length_nil] at c10 Y1
 rw [show strOfNums []=⟨#[]⟩ from rfl] at Y1
 by_cases h6:n2=0
 case neg =>
  have e1:((n2:Int)==0)=false:=by simpa using h6
  have e2:((n2:Int) != 0)=true:=by simpa using h6
  go_enter Tryz.func83,Tryz.ntmps83
  go_wp2_with fail
  go_ret
  exact ⟨rfl,H0.out⟩
 subst h6
 by_cases h7:n3=0
 case neg =>
  have e1:((n3:Int)==0)=false:=by simpa using h7
  have e2:((n3:Int) != 0)=true:=by simpa using h7
  go_enter Tryz.func83,Tryz.ntmps83
  go_wp2_with fail
  go_ret
  exact ⟨rfl,H0.out⟩
 subst h7
 exact absurd ⟨rfl,rfl,rfl,rfl,h4,rfl,rfl,rfl⟩ HO.out
theorem Bf (w:World) (B N:Nat):ar.At w B N bk zvA.toList:=gR w B N
theorem pq (v:ar) (w:World) (B N:Nat) (cs:List Value) (hN:N≤1048576) (hB:B≤w.heap.size) (hv:ar.At w B N v cs):Calls Tryz.prog 83 #[.agg cs.toArray,.agg zvA] w (cq (bj v) w):=by
 cases hz:bj v
 ·exact ui v hz w B N cs hN hB hv
 ·obtain rfl:=ly hz
  obtain ⟨n,hn⟩:=j0 bk
  refine (pp n bk w B N cs zvA.toList hn (by omega) hB hv (Bf w B N)).mono ?_
  rintro e w' ⟨rfl,hb⟩
  exact ⟨rfl,hb⟩
set_option maxRecDepth 100000 in
set_option maxHeartbeats 6400000 in
theorem qT (x:ag) (w:World) (B N:Nat) (cs:List Value) (hN:N≤1048576) (hB:B≤w.heap.size) (he:ag.At w B N x cs):Calls Tryz.prog 41 #[.agg cs.toArray] w (cq (bL x) w):=by
 obtain ⟨aa,fa,ac,fc,vs,hh⟩:=he.has
 have H0:=Hd (show Below w.heap.size w (w.alloc (.cells cs.toArray 34)) from af w _)
 have hvr:=Hd (show (w.alloc (.cells cs.toArray 34)).rangeAt w.heap.size (0+2) vs from (hh.valRange (aA w cs 34)).range)
 have HV:=Hd (show ar.At (w.alloc (.cells cs.toArray 34)) B N x.val vs from hh.atVal.below (H0.out.mono hB))
 have hl:=Hd (show (Tryz.prog.info? 30).map (·.size)=some vs.length by rw [hh.atVal.len];exact bM)
 have hs0:=Hd (show w.heap.size<(w.alloc (.cells cs.toArray 34)).heap.size by rw [World.size_alloc];omega)
 have hB0:=Hd (show B≤(w.alloc (.cells cs.toArray 34)).heap.size from Nat.le_trans hB H0.out.size)
 have HX:=Hd (aA w cs 34)
 have HO:=Hd (mU x)
 have c0:=hh.op
 have c1:=hh.name
 have c15:=hh.args
 have c16:=hh.funcs
 have z1:x.args.length≤1048576:=Nat.le_trans hh.own.2.2.1 hN
 have z2:x.funcs.length≤1048576:=Nat.le_trans hh.own.2.2.2 hN
 clear hh he
 obtain ⟨o,ho⟩:∃ o,x.op=o:=⟨_,rfl⟩
 obtain ⟨nm,hnm⟩:∃ nm,x.name=nm:=⟨_,rfl⟩
 obtain ⟨n1,hn1⟩:∃ n1,x.args.length=n1:=⟨_,rfl⟩
 obtain ⟨n2,hn2⟩:∃ n2,x.funcs.length=n2:=⟨_,rfl⟩
 rw [ho,hnm,hn1,hn2] at HO
 rw [ho] at c0
 rw [hnm] at c1
 rw [hn1] at c15 z1
 rw [hn2] at c16 z2
 clear ho hnm hn1 hn2
 by_cases h0:o=0
 case neg =>
  have HR:=Hd (show bL x=false by rw [← Bool.not_eq_true,HO.out];exact fun g=>h0 g.1)
  have e0:(o==0)=false:=by simpa using h0
  go_enter Tryz.func41,Tryz.ntmps41
  go_wp2_with fail
  go_ret
  exact ⟨am HR.out.symm,H0.out⟩
 subst h0
 by_cases hs:nm.toList=[]
 case neg =>
  have HR:=Hd (show bL x=false by rw [← Bool.not_eq_true,HO.out];exact fun g=>hs g.2.1)
  have s1:(nm.toList==[])=false:=by simp [hs]
  have s2:nm.toList.isEmpty=false:=by simp [hs]
  go_enter Tryz.func41,Tryz.ntmps41
  go_wp2_with fail
  go_ret
  exact ⟨am HR.out.symm,H0.out⟩
 have HS:=Hd hs
 go_enter Tryz.func41,Tryz.ntmps41
 go_wp2_with (refine aG rfl 30 _ rfl w.heap.size (0+2) rfl vs _ hvr.out Tryz.underlying30 rfl hl.out ?_)
 refine (pq x.val _ B N vs hN hB0.out HV.out).mono ?_
 rintro e w1 ⟨rfl,hb1⟩
 have H1:=Hd (ae H0.out hb1)
 have d15:=(HX.out.then hb1 hs0.out).get0 c15
 have d16:=(HX.out.then hb1 hs0.out).get0 c16
 clear hb1 c15 c16
 obtain ⟨z,hz⟩:∃ z,bj x.val=z:=⟨_,rfl⟩
 rw [hz] at HO ⊢
 clear hz
 cases z
 case false =>
  have HR:=Hd (show bL x=false by rw [← Bool.not_eq_true,HO.out];exact fun g=>by cases g.2.2.1)
  go_wp2_with fail
  go_ret
  exact ⟨am HR.out.symm,H1.out⟩
 by_cases h1:n1=0
 case neg =>
  have HR:=Hd (show bL x=false by rw [← Bool.not_eq_true,HO.out];exact fun g=>h1 (by omega))
  have hne1:((n1:Int)==0)=false:=by simpa using h1
  clear hs
  go_wp2_with fail
  go_ret
  exact ⟨am HR.out.symm,H1.out⟩
 subst h1
 by_cases h2:n2=0
 case neg =>
  have HR:=Hd (show bL x=false by rw [← Bool.not_eq_true,HO.out];exact fun g=>h2 (by omega))
  have hne2:((n2:Int)==0)=false:=by simpa using h2
  clear hs
  go_wp2_with fail
  go_ret
  exact ⟨am HR.out.symm,H1.out⟩
 subst h2
 have HR:=Hd (show bL x=true by rw [HO.out];simp [HS.out])
 clear hs
 go_wp2_with fail
 go_ret
 exact ⟨am HR.out.symm,H1.out⟩
set_option maxRecDepth 100000 in
set_option maxHeartbeats 1600000 in
theorem qO (x:ag) (w:World) (B N:Nat) (cs:List Value) (hN:N≤1048576) (hB:B≤w.heap.size) (he:ag.At w B N x cs):Calls Tryz.prog 84 #[.agg cs.toArray] w (cq (dX x) w):=by
 obtain ⟨aa,fa,ac,fc,vs,hh⟩:=he.has
 have c0:=hh.op
 have hlen:=he.len
 have HP:=Hd he.op0z
 obtain ⟨w1,hw1⟩:∃ w1,w1=w.alloc (.cells (cs.set 0 (.int .i64 0)).toArray 34):=⟨_,rfl⟩
 have R1:=Hd (show aq 34 w1 w.heap.size (cs.set 0 (.int .i64 0)) from by rw [hw1];exact heap_alloc_new w _)
 have H1:=Hd (show Below w.heap.size w w1 by rw [hw1];exact af w _)
 have hl:=Hd (show (Tryz.prog.info? 34).map (·.size)=some (cs.set 0 (.int .i64 0)).length by rw [List.length_set,hlen];kernel_rfl)
 have HW:=Hd hw1
 have HAB:=Hd (nS x)
 clear hh he hw1 hlen
 obtain ⟨o,ho⟩:∃ o,x.op=o:=⟨_,rfl⟩
 rw [ho] at c0 HAB
 clear ho
 by_cases h30:o=30
 ·subst h30
  have HR:=Hd (show dX x=bL (.mk 0 x.name x.val x.args x.funcs) by rw [HAB.out];rfl)
  go_enter Tryz.func84,Tryz.ntmps84
  go_wp2_with (refine aG rfl 34 _ rfl w.heap.size 0 rfl (cs.set 0 (.int .i64 0)) _ (by rw [← HW.out];exact R1.out.range) Tryz.underlying34 rfl hl.out ?_)
  rw [← HW.out]
  refine (qT (.mk 0 x.name x.val x.args x.funcs) _ B N _ hN (Nat.le_trans hB H1.out.size) (HP.out.below (H1.out.mono hB))).mono ?_
  rintro e w2 ⟨rfl,hb2⟩
  have H2:=Hd (ae H1.out hb2)
  clear hb2
  go_wp2_with fail
  go_ret
  exact ⟨am HR.out.symm,H2.out⟩
 ·have HR:=Hd (show dX x=false by rw [HAB.out,decide_eq_false h30];rfl)
  have e30:(o==30)=false:=by simpa using h30
  have H0:=Hd (show Below w.heap.size w (w.alloc (.cells (cs.set 0 (.int .i64 0)).toArray 34)) from af w _)
  go_enter Tryz.func84,Tryz.ntmps84
  go_wp2_with fail
  go_ret
  exact ⟨am HR.out.symm,H0.out⟩
end Go.Proofs.YtiefeajappjnbaaGreatDoor

/- datakitref36.Same of a body and the expression of the input; the absent expression. -/
namespace Go.Proofs.YtiefeajappjnbaaGreatDoor
open Go.RowKit
set_option maxRecDepth 100000 in
set_option maxHeartbeats 1600000 in
theorem yJ (w:World):Calls Tryz.prog 89 #[] w (fun e w'=>e=.returned (.agg (aT 30 ⟨#[]⟩ (.slice none 0 0)).toArray)∧Below w.heap.size w w'):=by
 go_enter Tryz.func89,Tryz.ntmps89
 go_wp2_with (refine ak rfl 34 _ _ rfl bH (aT 30 ⟨#[]⟩ (.slice none 0 0)).toArray rfl rfl ay rfl (by decide) ?_)
 refine bodyPost_ret (results_cell_row rfl _ _ w.heap.size 34 _ (0,0) _ rfl (heap_alloc_new w _) Tryz.underlying34 rfl ay) rfl ?_
 exact ⟨rfl,af _ _⟩
set_option maxRecDepth 100000 in
set_option maxHeartbeats 3200000 in
theorem zq (a b:Option Addr) (n m c d:Nat) (hn:n≠m) (w:World):Calls Tryz.prog 52 #[.slice a n c,.slice b m d] w (cq false w):=by
 have H0:=Hd (Below.refl w.heap.size w)
 have e1:((n:Int)==(m:Int))=false:=by simp;omega
 have e2:((n:Int) != (m:Int))=true:=by simp;omega
 go_enter Tryz.func52,Tryz.ntmps52
 go_wp2_with fail
 go_ret
 exact ⟨rfl,H0.out⟩
def idL:List Value:=aT 1 ⟨#[]⟩ (.slice none 0 0)
set_option maxRecDepth 100000 in
set_option maxHeartbeats 12800000 in
theorem rc (x:ag) (h1:x.op=1) (hz:cr x=false) (w:World) (B N:Nat) (cs:List Value) (hN:N≤1048576) (hB:B≤w.heap.size) (hx:ag.At w B N x cs):Calls Tryz.prog 51 #[.agg cs.toArray,.agg idL.toArray] w (cq false w):=by
 obtain ⟨aa,fa,ac,fc,vs,hh⟩:=hx.has
 have H0:=Hd (show Below w.heap.size w ((w.alloc (.cells cs.toArray 34)).alloc (.cells idL.toArray 34)) from ae (af w _) (af _ _))
 have hsz:((w.alloc (.cells cs.toArray 34)).alloc (.cells idL.toArray 34)).heap.size=w.heap.size+2:=by rw [World.size_alloc,World.size_alloc]
 have R0:=Hd (show aj ((w.alloc (.cells cs.toArray 34)).alloc (.cells idL.toArray 34)) w.heap.size 0 cs from (aA w cs 34).then (af _ _) (by rw [World.size_alloc];omega))
 have R1:=Hd (show aj ((w.alloc (.cells cs.toArray 34)).alloc (.cells idL.toArray 34)) (w.heap.size+1) 0 idL from by
  have:=aA (w.alloc (.cells cs.toArray 34)) idL 34
  rw [World.size_alloc] at this
  exact this)
 have HO:=Hd (show ¬ (x.name.toList=[]∧bj x.val=true∧x.args.length=0∧x.funcs.length=0) from fun g=>by
  rw [(lR x).2 ⟨h1,g.1,g.2.1,by omega,by omega⟩] at hz;cases hz)
 have HV1:=Hd (hh.atVal.below (H0.out.mono hB))
 have hl1:=Hd (show (Tryz.prog.info? 30).map (·.size)=some vs.length by rw [hh.atVal.len];exact bM)
 have hl2:=Hd (show (Tryz.prog.info? 30).map (·.size)=some zvA.toList.length by kernel_rfl)
 have HP1:=Hd hh.val
 have HP2:=Hd (show (idL.drop 2).take 13=zvA.toList by rfl)
 have c0:((w.alloc (.cells cs.toArray 34)).alloc (.cells idL.toArray 34)).cell? ⟨w.heap.size,0,none⟩=some (.int .i64 1):=by rw [R0.out.get0 hh.op,h1]
 have c1:=R0.out.get0 hh.name
 have c15:=R0.out.get0 hh.args
 have d0:=R1.out.get0 (j:=0) (v:=.int .i64 1) rfl
 have d1:=R1.out.get0 (j:=1) (v:=.string ⟨#[]⟩) rfl
 have d15:=R1.out.get0 (j:=15) (v:=.slice none 0 0) rfl
 have HA15:=Hd hh.args
 have HA16:=Hd hh.funcs
 have z1:x.args.length≤1048576:=Nat.le_trans hh.own.2.2.1 hN
 have z2:x.funcs.length≤1048576:=Nat.le_trans hh.own.2.2.2 hN
 clear hh hx hz h1
 obtain ⟨nm,hnm⟩:∃ nm,x.name=nm:=⟨_,rfl⟩
 obtain ⟨n1,hn1⟩:∃ n1,x.args.length=n1:=⟨_,rfl⟩
 obtain ⟨n2,hn2⟩:∃ n2,x.funcs.length=n2:=⟨_,rfl⟩
 rw [hnm,hn1,hn2] at HO
 rw [hnm] at c1
 rw [hn1] at c15 z1 HA15
 rw [hn2] at z2 HA16
 clear hnm hn1 hn2
 by_cases hs:nm.toList=[]
 case neg =>
  have s1:(nm.toList==[])=false:=by simp [hs]
  have s2:(nm.toList != [])=true:=by simp [hs]
  have s3:nm.toList.isEmpty=false:=by simp [hs]
  go_enter Tryz.func51,Tryz.ntmps51
  go_wp2_with fail
  go_ret
  exact ⟨rfl,H0.out⟩
 have HS:=Hd hs
 go_enter Tryz.func51,Tryz.ntmps51
 go_wp2_with (first
  | (refine ax rfl 30 _ rfl w.heap.size 2 rfl vs _ (R0.out.part HP1.out) Tryz.underlying30 rfl hl1.out ?_)
  | (refine ax rfl 30 _ rfl (w.heap.size+1) 2 rfl zvA.toList _ (R1.out.part HP2.out) Tryz.underlying30 rfl hl2.out ?_))
 refine (pq x.val _ B N vs hN (Nat.le_trans hB H0.out.size) HV1.out).mono ?_
 rintro e w0 ⟨rfl,hb0⟩
 have H1:=Hd (ae H0.out hb0)
 have Q0:=Hd (R0.out.then hb0 (by omega))
 have Q1:=Hd (R1.out.then hb0 (by omega))
 have hs1:w.heap.size+2≤w0.heap.size:=by have:=hb0.size;omega
 clear c0 c1 c15 d0 d1 d15 hb0
 have c15:=Q0.out.get0 HA15.out
 have c16:=Q0.out.get0 HA16.out
 have d15:=Q1.out.get0 (j:=15) (v:=.slice none 0 0) rfl
 have d16:=Q1.out.get0 (j:=16) (v:=.slice none 0 0) rfl
 clear R0 R1 H0 HV1 hsz hs
 obtain ⟨z,hz⟩:∃ z,bj x.val=z:=⟨_,rfl⟩
 rw [hz] at HO ⊢
 clear hz
 cases z
 case false =>
  go_wp2_with fail
  go_ret
  exact ⟨rfl,H1.out⟩
 by_cases h1:n1=0
 case neg =>
  have e1:((n1:Int)==0)=false:=by simpa using h1
  have e2:((n1:Int) != 0)=true:=by simpa using h1
  go_wp2_with fail
  go_ret
  exact ⟨rfl,H1.out⟩
 subst h1
 have h2:n2≠0:=fun g=>HO.out ⟨HS.out,rfl,rfl,g⟩
 go_wp2_with fail
 go_simp
 go_loopw [5] (fun i wr=>i=.int .i64 0∧wr=w0) (fun _ _=>0)
 case atStart=>exact ⟨rfl,rfl⟩
 case round =>
  obtain ⟨rfl,rfl⟩:=hrel
  go_wp2_with fail
  refine (zq _ _ n2 0 _ _ h2 _).mono ?_
  rintro e w6 ⟨rfl,hb6⟩
  have H6:=Hd (ae H1.out hb6)
  clear hb6
  go_wp2_with fail
  go_ret
  exact ⟨rfl,H6.out⟩
theorem zp (x:ag) (h1:x.op=1) (w:World) (B N:Nat) (cs:List Value) (hN:N≤1048576) (hB:B≤w.heap.size) (hx:ag.At w B N x cs):Calls Tryz.prog 51 #[.agg cs.toArray,.agg idL.toArray] w (cq (cr x) w):=by
 cases hz:cr x
 ·exact rc x h1 hz w B N cs hN hB hx
 ·obtain rfl:=nn hz
  refine (et 0 fu mn w B N cs idL hN hB hx (kv w B N)).mono ?_
  rintro e w' ⟨rfl,hb⟩
  exact ⟨rfl,hb⟩
end Go.Proofs.YtiefeajappjnbaaGreatDoor
