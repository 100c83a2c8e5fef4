/- datakitref43.Query gives the query of a plan (printed by genqur43.py). -/
import Derived.Test.YtiefeajappjnbaaGreatDoorGA
import Derived.Test.YtiefeajappjnbaaGreatDoorQup43
import Derived.Test.YtiefeajappjnbaaGreatDoorNC
namespace Go.Proofs.YtiefeajappjnbaaGreatDoor
open Go.RowKit
def DY (N:Nat) (d:br) (w:World) (e:Ending) (w':World):Prop:=∃ ms,e=.returned (.agg ms.toArray)∧ag.At w' w'.heap.size N (a8 d) ms∧Below w.heap.size w w'
theorem wk {e:ag} (h:e.op≠1):cr e=false:=by
 unfold cr
 rw [decide_eq_false (fun g=>h g.1)]
set_option maxRecDepth 100000 in
set_option maxHeartbeats 25600000 in
theorem sB (d:br) (l:List al) (ps:List Value) (w:World) (B N:Nat) (hN:N≤1048576) (hN1:20≤N) (hB:B≤w.heap.size) (h48:d.steps.length≤48) (hpr:d.steps.all aW=true) (hsc:∀ sa sc,ps[1]?=some (.slice sa d.steps.length sc)→d.steps.length≤sc) (hp:cJ w B N d l ps):Calls Tryz.prog 44 #[.agg ps.toArray] w (DY N d w):=by
 obtain ⟨sa,sc,ics,ucs,bcs,fa,fc,hh⟩:=hp.has
 have hplen:=hp.len
 obtain ⟨md,hmd⟩:∃ v,d.mode=v:=⟨_,rfl⟩
 obtain ⟨nm,hnm⟩:∃ v,d.name=v:=⟨_,rfl⟩
 obtain ⟨k,hk⟩:∃ v,d.steps.length=v:=⟨_,rfl⟩
 obtain ⟨bo,hbo⟩:∃ v,d.body.op=v:=⟨_,rfl⟩
 obtain ⟨_,_,_,_,_,hbh⟩:=hh.atBody.has
 have HMD:=Hd hmd
 have HNM:=Hd hnm
 have HK:=Hd hk
 have HBO:=Hd hbo
 have HC0:=Hd (show ps[0]?=some (.int .i64 md) by rw [← hmd];exact hh.mode)
 have HC1:=Hd (show ps[1]?=some (.slice sa k sc) by rw [← hk];exact hh.steps)
 have HC2:=Hd (show ps[2]?=some (.string nm) by rw [← hnm];exact hh.name)
 have HC37:=Hd (show ps[37]?=some (.int .i64 bo) by
  have h0:=hbh.op
  rw [← hh.body,List.getElem?_take,if_pos (by decide),List.getElem?_drop,hbo] at h0
  exact h0)
 have HPI:=Hd hh.init
 have HPU:=Hd hh.upd
 have HPB:=Hd hh.body
 have HSA:=Hd hh.atSteps
 have HIA:=Hd hh.atInit
 have HUA:=Hd hh.atUpd
 have HBA:=Hd hh.atBody
 have hli:=Hd (show (Tryz.prog.info? 34).map (·.size)=some ics.length by rw [hh.atInit.len];exact ay)
 have hlu:=Hd (show (Tryz.prog.info? 34).map (·.size)=some ucs.length by rw [hh.atUpd.len];exact ay)
 have hlb:=Hd (show (Tryz.prog.info? 34).map (·.size)=some bcs.length by rw [hh.atBody.len];exact ay)
 have HLI:=Hd hh.atInit.len
 have HLU:=Hd hh.atUpd.len
 have HLB:=Hd hh.atBody.len
 have HNN:=Hd (show nm.size≤N by rw [← hnm];exact hh.hn)
 have HPR:=Hd hpr
 have HB0:=Hd hB
 have h48k:k≤48:=by rw [← hk];exact h48
 have hksc:k≤sc:=by rw [← hk];exact hsc sa sc hh.steps
 obtain ⟨wA,hwA⟩:∃ wA,wA=(w.alloc (.cells ps.toArray 58)).alloc (.cells zE0 34):=⟨_,rfl⟩
 have BA:=Hd (show Below w.heap.size w wA by rw [hwA];exact ae (af w _) (af _ _))
 have PA:=Hd (show aq 58 wA w.heap.size ps by rw [hwA];exact (aq.new w 58 ps).alloc _)
 have ZA:=Hd (show aq 34 wA (w.heap.size+1) ai by
  have h:=aq.new (w.alloc (.cells ps.toArray 58)) 34 ai
  rw [World.size_alloc] at h
  rw [hwA];exact h)
 have hsA:=Hd (show wA.heap.size=w.heap.size+2 by rw [hwA,World.size_alloc,World.size_alloc])
 have HWA:=Hd hwA
 have c1:=PA.out.cell HC1.out
 rw [hwA] at c1
 clear hh hbh hp hsc hplen hmd hnm hk hbo hwA h48 hpr
 go_enter Tryz.func44,Tryz.ntmps44
 go_wp2_with fail
 rw [← HWA.out]
 clear c1
 refine (Cm B N hN hN1 k d.steps sa sc wA HK.out (by rw [hsA.out];have:=HB0.out;omega) h48k hksc HPR.out (bB.below (BA.out.mono HB0.out) _ HSA.out)).mono ?_
 rintro e w1 ⟨row,rfl,hsf,hb1⟩
 have hlen:=hsf.1
 have hlr:=Hd (show (Tryz.prog.info? 34).map (·.size)=some row.length by rw [hlen];kernel_rfl)
 have hlr2:=Hd (show (Tryz.prog.info? 34).map (·.size)=some row.toArray.size by rw [List.size_toArray,hlen];kernel_rfl)
 have hlr3:=Hd (show bH.size=row.toArray.size by show 17=_;rw [List.size_toArray,hlen])
 have hone:=Hd (show row.toArray.all (·.oneCell')=true from Go.all_oneCell_toArray hsf.2.1)
 have HRL:=Hd hlen
 obtain ⟨wC,hwC⟩:∃ wC,wC=w1.alloc (.cells row.toArray 34):=⟨_,rfl⟩
 obtain ⟨m,hm⟩:∃ m,m=w1.heap.size:=⟨_,rfl⟩
 have HQ:=Hd (show QS B N w m ps ai row 34 (aX d.steps) wC by
  have hs1:=hb1.size
  rw [hsA.out] at hs1
  rw [hwC,hm]
  exact ⟨ae (ae BA.out hb1) (af _ _),(PA.out.then hb1).alloc _,(ZA.out.then hb1).alloc _,aq.new w1 34 row,(show bV (w.heap.size+2) N _ row w1 by rw [← hsA.out];exact hsf).toB (af w1 _) (Nat.le_refl _),hs1⟩)
 have HWC:=Hd hwC
 have HM:=Hd hm
 have c0:=HQ.out.pln.cell HC0.out
 have c37:=HQ.out.pln.cell HC37.out
 clear hwC hsf hb1 hlen hm
 have hcase:md=2∨md=3∨(md≠2∧md≠3):=by omega
 rcases hcase with rfl | rfl | ⟨h2,h3⟩
 case' inl =>
  obtain ⟨fl,hfl⟩:∃ fl,[row,ics,ucs].flatten=fl:=⟨_,rfl⟩
  have HFL:=Hd hfl
  clear hfl
  have OI:=Hd (bg.old (L:=w.heap.size+2) (m:=m) HIA.out (Nat.le_trans HB0.out HQ.out.low.size))
  have OU:=Hd (bg.old (L:=w.heap.size+2) (m:=m) HUA.out (Nat.le_trans HB0.out HQ.out.low.size))
  have HL:=Hd (show bg B w (w.heap.size+2) m N (ch d) (aT 19 nm (.slice (some ⟨wC.heap.size,0,none⟩) 3 3)) (wC.alloc (.cells fl.toArray 34)) by
   rw [sO HMD.out,HNM.out,← HFL.out]
   exact bg.list (xs:=[aX d.steps,d.init,d.upd]) (rows:=[row,ics,ucs]) rfl (wN (P:=fun x r=>bg B w (w.heap.size+2) m N x r wC) HQ.out.safe OI.out OU.out) (Nat.le_trans HQ.out.hm (Nat.le_of_lt HQ.out.main.lt)) HQ.out.main.lt (op_n:=19) rfl (by decide) HNN.out (by simp;omega))
  have QA:=Hd (HQ.out.then (af wC (.cells fl.toArray 34)))
  have Q3:=Hd (QA.out.put HL.out)
  have c2:=HQ.out.pln.cell HC2.out
  have c0b:=Q3.out.pln.cell HC0.out
  have c37b:=Q3.out.pln.cell HC37.out
  go_wp2_with (first
   | ((with_reducible show wpList _ _ _ (⟨none,.store 34 (.tmp 3) (.tmp 6),_,_,_,_⟩::_) _ _);refine ak rfl 34 _ _ rfl bH row.toArray rfl rfl hlr2.out hlr3.out hone.out ?_;rw [← HWC.out,← HM.out])
   | ((with_reducible show wpList _ _ _ (⟨some 12,_,_,_,_,_⟩::_) _ _);refine wpList_load_mid rfl 34 _ rfl m 0 rfl row _ HQ.out.main.range Tryz.underlying34 rfl hlr.out ?_)
   | ((with_reducible show wpList _ _ _ (⟨some 14,_,_,_,_,_⟩::_) _ _);refine wpList_load_mid rfl 34 _ rfl w.heap.size 3 rfl ics _ (HQ.out.pln.cells.partU HPI.out) Tryz.underlying34 rfl hli.out ?_)
   | ((with_reducible show wpList _ _ _ (⟨some 16,_,_,_,_,_⟩::_) _ _);refine wpList_load_mid rfl 34 _ rfl w.heap.size 20 rfl ucs _ (HQ.out.pln.cells.partU HPU.out) Tryz.underlying34 rfl hlu.out ?_)
   | ((with_reducible show wpList _ _ _ (⟨some 17,_,_,_,_,_⟩::_) _ _);refine dN rfl [row,ics,ucs] fl HFL.out 3 _ rfl rfl (by decide) (by decide) (wc HRL.out HLI.out HLU.out) (by rw [List.map_toArray];rfl) ?_)
   | ((with_reducible show wpList _ _ _ (⟨none,.store 34 (.tmp 3) (.tmp 18),_,_,_,_⟩::_) _ _);refine aD rfl 34 _ _ rfl m 0 (aT 19 nm (.slice (some ⟨wC.heap.size,0,none⟩) 3 3)) rfl rfl 34 row (aT 19 nm (.slice (some ⟨wC.heap.size,0,none⟩) 3 3)) QA.out.main (by kernel_rfl) (eQ HRL.out rfl) (eR HRL.out rfl) (bw _ _ rfl) ?_))
  obtain ⟨u3,hu3⟩:∃ u3,u3=(wC.alloc (.cells fl.toArray 34)).setRow m (aT 19 nm (.slice (some ⟨wC.heap.size,0,none⟩) 3 3)).toArray:=⟨_,rfl⟩
  obtain ⟨r3,hr3⟩:∃ r3,r3=(aT 19 nm (.slice (some ⟨wC.heap.size,0,none⟩) 3 3)):=⟨_,rfl⟩
  rw [← hu3,← hr3] at Q3
  rw [← hu3]
  clear hu3 hr3 HL QA c0 c37 c2 c0b c37b
 case' inr.inl =>
  go_wp2_with ((with_reducible show wpList _ _ _ (⟨none,.store 34 (.tmp 3) (.tmp 6),_,_,_,_⟩::_) _ _);refine ak rfl 34 _ _ rfl bH row.toArray rfl rfl hlr2.out hlr3.out hone.out ?_;rw [← HWC.out,← HM.out])
  have HQD:=Hd (HQ.out.then (b7 wC))
  have KD:=Hd (b7 wC)
  have HLS:=Hd HQ.out.low.size
  refine wp_region_held_drew (S:=fun wu=>Below w.heap.size wC wu∧aq 58 wu w.heap.size ps) (by kernel_rfl) ⟨(b7 wC).mono HQ.out.low.size,HQ.out.pln⟩ (fun hHeld=>?_)
  refine' tk 0 (.pointer (some ⟨w.heap.size,2,none⟩)) rfl rfl (.inl ⟨by rfl,fun u hu=>(by go_simp)⟩) hHeld ?_
  simp only [sq1,sq0]
  refine' tk 1 (.string nm) rfl rfl (.inl ⟨by rfl,fun u hu=>(by have hc:=hu.2.cell HC2.out;go_simp)⟩) hHeld ?_
  simp only [sq1,sq0]
  refine' tk 3 (.pointer (some ⟨w.heap.size,3,none⟩)) rfl rfl (.inl ⟨by rfl,fun u hu=>(by go_simp)⟩) hHeld ?_
  simp only [sq1,sq0]
  refine' tk 4 _ rfl rfl (yieldsIf_load_mid (by kernel_rfl) 34 _ rfl (w.heap.size) (3) rfl ics _ (fun u hu=>hu.2.cells.partU HPI.out) Tryz.underlying34 rfl hli.out) hHeld ?_
  simp only [sq1,sq0]
  refine' tk 5 (.pointer (some ⟨w.heap.size,20,none⟩)) rfl rfl (.inl ⟨by rfl,fun u hu=>(by go_simp)⟩) hHeld ?_
  simp only [sq1,sq0]
  refine' tk 6 _ rfl rfl (yieldsIf_load_mid (by kernel_rfl) 34 _ rfl (w.heap.size) (20) rfl ucs _ (fun u hu=>hu.2.cells.partU HPU.out) Tryz.underlying34 rfl hlu.out) hHeld ?_
  simp only [sq1,sq0]
  refine wpAnyH_ready (rs:=[2,7]) (by kernel_rfl) (by simp) ?_
  refine AllReadyH.cons rfl (fun K hK=>?_) (AllReadyH.cons rfl (fun K hK=>?_) AllReadyH.nil)
  rw [if_pos (by kernel_rfl)]
  refine wp_load_mid 34 _ rfl m 0 rfl row _ (HQD.out.main).range Tryz.underlying34 rfl hlr.out ?_
  simp only [List.getElem_toArray,Act.put]
  refine hK.out _ _ hHeld (fun hHeld1=>?_)
  clear hK K hHeld1
  refine rd1 7 rfl (fun K hK=>?_)
  go_simp
  refine (yJ _).mono ?_
  rintro e u2 ⟨rfl,hb2⟩
  have Q2:=Hd (HQD.out.then hb2)
  have K2:=Hd (ae KD.out hb2)
  refine hK.out _ _ ⟨K2.out.mono HLS.out,Q2.out.pln⟩ (fun hHeld1=>?_)
  clear hK K hHeld1
  clear hb2
  rotate_left
  go_simp
  refine (yJ _).mono ?_
  rintro e u2 ⟨rfl,hb2⟩
  have Q2:=Hd (HQD.out.then hb2)
  have K2:=Hd (ae KD.out hb2)
  refine hK.out _ _ ⟨K2.out.mono HLS.out,Q2.out.pln⟩ (fun hHeld1=>?_)
  clear hK K hHeld1
  clear hb2
  refine rd1 2 rfl (fun K hK=>?_)
  rw [if_pos (by kernel_rfl)]
  refine wp_load_mid 34 _ rfl m 0 rfl row _ (Q2.out.main).range Tryz.underlying34 rfl hlr.out ?_
  simp only [List.getElem_toArray,Act.put]
  refine hK.out _ _ ⟨K2.out.mono HLS.out,Q2.out.pln⟩ (fun hHeld1=>?_)
  clear hK K hHeld1
  all_goals
   have OI:=Hd (bg.old (L:=w.heap.size+2) (m:=m) HIA.out (Nat.le_trans HB0.out Q2.out.low.size))
   have OU:=Hd (bg.old (L:=w.heap.size+2) (m:=m) HUA.out (Nat.le_trans HB0.out Q2.out.low.size))
   obtain ⟨fl,hfl⟩:∃ fl,[row,ics,ucs,aT 30 ⟨#[]⟩ (.slice none 0 0)].flatten=fl:=⟨_,rfl⟩
   have HFL:=Hd hfl
   clear hfl
   refine rd1 8 rfl (fun K hK=>?_)
   rw [if_pos (by kernel_rfl)]
   refine eo [row,ics,ucs,aT 30 ⟨#[]⟩ (.slice none 0 0)] fl HFL.out 4 _ rfl rfl (by decide) (by decide) (AK HRL.out HLI.out HLU.out rfl) (by rw [List.map_toArray];rfl) ?_
   simp only [List.getElem_toArray,List.getElem_cons_succ,List.getElem_cons_zero,Act.put]
   have HL:=Hd (show bg B w (w.heap.size+2) m N (ch d) (aT 20 nm (.slice (some ⟨u2.heap.size,0,none⟩) 4 4)) (u2.alloc (.cells fl.toArray 34)) by
    rw [sN HMD.out,HNM.out,← HFL.out]
    exact bg.list (xs:=[aX d.steps,d.init,d.upd,jM]) (rows:=[row,ics,ucs,aT 30 ⟨#[]⟩ (.slice none 0 0)]) rfl (AP (P:=fun x r=>bg B w (w.heap.size+2) m N x r u2) Q2.out.safe OI.out OU.out (lU B w (w.heap.size+2) m N u2)) (Nat.le_trans Q2.out.hm (Nat.le_of_lt Q2.out.main.lt)) Q2.out.main.lt (op_n:=20) rfl (by decide) HNN.out (by simp;omega))
   have KA:=Hd ((K2.out.mono HLS.out).alloc (Nat.le_trans HLS.out K2.out.size) (.cells fl.toArray 34))
   have QA:=Hd (Q2.out.then (af u2 (.cells fl.toArray 34)))
   refine hK.out _ _ ⟨KA.out,QA.out.pln⟩ (fun hHeld1=>?_)
   clear hK K hHeld1
   refine rd1 9 rfl (fun K hK=>?_)
   go_simp
   refine hK.out _ _ ⟨KA.out,QA.out.pln⟩ (fun hHeld1=>?_)
   clear hK K hHeld1
   refine rd1 10 rfl (fun K hK=>?_)
   rw [if_pos (by kernel_rfl)]
   refine bn 34 _ _ rfl m 0 (aT 20 nm (.slice (some ⟨u2.heap.size,0,none⟩) 4 4)) rfl rfl 34 row (aT 20 nm (.slice (some ⟨u2.heap.size,0,none⟩) 4 4)) QA.out.main (by kernel_rfl) (eQ HRL.out rfl) (eR HRL.out rfl) (bw _ _ rfl) ?_
   simp only [List.getElem_toArray,List.getElem_cons_succ,List.getElem_cons_zero,Act.put]
   have Q3:=Hd (QA.out.put HL.out)
   refine hK.out _ _ ⟨below_setRow KA.out (by have:=QA.out.hm;omega) _,Q3.out.pln⟩ (fun hHeld1=>?_)
   clear hK K hHeld1 hHeld
   refine wpAnyH_done (by kernel_rfl) ?_ _
   obtain ⟨u3,hu3⟩:∃ u3,u3=(u2.alloc (.cells fl.toArray 34)).setRow m (aT 20 nm (.slice (some ⟨u2.heap.size,0,none⟩) 4 4)).toArray:=⟨_,rfl⟩
   obtain ⟨r3,hr3⟩:∃ r3,r3=(aT 20 nm (.slice (some ⟨u2.heap.size,0,none⟩) 4 4)):=⟨_,rfl⟩
   rw [← hu3,← hr3] at Q3
   rw [← hu3]
   clear hu3 hr3 HL KA QA Q2 K2 HQD KD HLS c0 c37
 case' inr.inr =>
  have e2:(md==2)=false:=by simpa using h2
  have e3:(md==3)=false:=by simpa using h3
  have Q3:=Hd (show QS B N w m ps ai row 34 (ch d) wC by rw [sM (by rw [HMD.out];exact h2) (by rw [HMD.out];exact h3)];exact HQ.out)
  go_wp2_with ((with_reducible show wpList _ _ _ (⟨none,.store 34 (.tmp 3) (.tmp 6),_,_,_,_⟩::_) _ _);refine ak rfl 34 _ _ rfl bH row.toArray rfl rfl hlr2.out hlr3.out hone.out ?_;rw [← HWC.out,← HM.out])
  obtain ⟨u3,hu3⟩:∃ u3,u3=wC:=⟨_,rfl⟩
  obtain ⟨r3,hr3⟩:∃ r3,r3=row:=⟨_,rfl⟩
  rw [← hu3,← hr3] at Q3
  rw [← hu3]
  clear hu3 hr3 c0 c37
 all_goals
  have R3:=Hd Q3.out.safe.1
  have hl3:=Hd (show (Tryz.prog.info? 34).map (·.size)=some r3.length by rw [R3.out];kernel_rfl)
  have hl3b:=Hd (show (Tryz.prog.info? 34).map (·.size)=some r3.toArray.size by rw [List.size_toArray,R3.out];kernel_rfl)
  have ho3:=Hd Q3.out.safe.2.1
  have c37:=Q3.out.pln.cell HC37.out
  go_wp2_with fail
  have HLS:=Hd Q3.out.low.size
  have HQD:=Hd (Q3.out.then (b7 u3))
  have KD:=Hd (b7 u3)
  by_cases hb1:bo=1
  case' pos =>
   subst hb1
   refine wp_region_held_drew (S:=fun wu=>Below w.heap.size u3 wu∧aq 58 wu w.heap.size ps) (by kernel_rfl) ⟨(b7 u3).mono Q3.out.low.size,Q3.out.pln⟩ (fun hHeld=>?_)
   refine' tk 0 (.pointer (some ⟨w.heap.size,37,none⟩)) rfl rfl (.inl ⟨by rfl,fun u hu=>(by go_simp)⟩) hHeld ?_
   simp only [sq1,sq0]
   refine' tk 1 (.pointer (some ⟨w.heap.size,37,none⟩)) rfl rfl (.inl ⟨by rfl,fun u hu=>(by go_simp)⟩) hHeld ?_
   simp only [sq1,sq0]
   refine' tk 2 (.int .i64 1) rfl rfl (.inl ⟨by rfl,fun u hu=>(by have hc:=hu.2.cell HC37.out;go_simp)⟩) hHeld ?_
   simp only [sq1,sq0]
   refine' tk 3 (.bool true) rfl rfl (.inl ⟨by rfl,fun u hu=>(by go_simp)⟩) hHeld ?_
   simp only [sq1,sq0]
   refine' tk 4 (.bool true) rfl rfl (.inl ⟨by rfl,fun u hu=>(by go_simp)⟩) hHeld ?_
   simp only [sq1,sq0]
   refine' tk 5 (.pointer (some ⟨w.heap.size,37,none⟩)) rfl rfl (.inl ⟨by rfl,fun u hu=>(by go_simp)⟩) hHeld ?_
   simp only [sq1,sq0]
   refine' tk 6 _ rfl rfl (yieldsIf_load_mid (by kernel_rfl) 34 _ rfl (w.heap.size) (37) rfl bcs _ (fun u hu=>hu.2.cells.partU HPB.out) Tryz.underlying34 rfl hlb.out) hHeld ?_
   simp only [sq1,sq0]
   refine rd1 7 rfl (fun K hK=>?_)
   go_simp
   refine (s4 _).mono ?_
   rintro e u4 ⟨rfl,hb4⟩
   have Q4:=Hd (HQD.out.then hb4)
   have K4:=Hd (ae KD.out hb4)
   refine hK.out _ _ ⟨K4.out.mono HLS.out,Q4.out.pln⟩ (fun hHeld1=>?_)
   clear hK K hHeld1
   clear hb4
   refine rd1 8 rfl (fun K hK=>?_)
   go_simp
   refine (zp d.body HBO.out u4 B N bcs hN (Nat.le_trans HB0.out Q4.out.low.size) (HBA.out.below (Q4.out.low.mono HB0.out))).mono ?_
   rintro e u5 ⟨rfl,hb5⟩
   have Q5:=Hd (Q4.out.then hb5)
   have K5:=Hd (ae K4.out hb5)
   obtain ⟨pl,hpl⟩:∃ v,cr d.body=v:=⟨_,rfl⟩
   have HPLN:=Hd hpl
   rw [hpl]
   refine hK.out _ _ ⟨K5.out.mono HLS.out,Q5.out.pln⟩ (fun hHeld1=>?_)
   clear hK K hHeld1
   clear hb5 hpl
   refine rd1 9 rfl (fun K hK=>?_)
   go_simp
   refine hK.out _ _ ⟨K5.out.mono HLS.out,Q5.out.pln⟩ (fun hHeld1=>?_)
   clear hK K hHeld1 hHeld
   refine wpAnyH_done (by kernel_rfl) ?_ _
   cases pl
  case' neg =>
   have e1:(bo==1)=false:=by simpa using hb1
   have HPLN:=Hd (wk (show d.body.op≠1 by rw [HBO.out];exact hb1))
   refine wp_region_held_drew (S:=fun wu=>Below w.heap.size u3 wu∧aq 58 wu w.heap.size ps) (by kernel_rfl) ⟨(b7 u3).mono Q3.out.low.size,Q3.out.pln⟩ (fun hHeld=>?_)
   refine' tk 0 (.pointer (some ⟨w.heap.size,37,none⟩)) rfl rfl (.inl ⟨by rfl,fun u hu=>(by go_simp)⟩) hHeld ?_
   simp only [sq1,sq0]
   refine' tk 1 (.pointer (some ⟨w.heap.size,37,none⟩)) rfl rfl (.inl ⟨by rfl,fun u hu=>(by go_simp)⟩) hHeld ?_
   simp only [sq1,sq0]
   refine' tk 2 (.int .i64 bo) rfl rfl (.inl ⟨by rfl,fun u hu=>(by have hc:=hu.2.cell HC37.out;go_simp)⟩) hHeld ?_
   simp only [sq1,sq0]
   refine' tk 3 (.bool false) rfl rfl (.inl ⟨by rfl,fun u hu=>(by go_simp)⟩) hHeld ?_
   simp only [sq1,sq0]
   refine' tk 4 (.bool false) rfl rfl (.inl ⟨by rfl,fun u hu=>(by go_simp)⟩) hHeld ?_
   simp only [sq1,sq0]
   refine' tk 5 undef rfl rfl (.inr ⟨by rfl,rfl⟩) hHeld ?_
   simp only [sq1,sq0]
   refine' tk 6 undef rfl rfl (.inr ⟨by rfl,rfl⟩) hHeld ?_
   simp only [sq1,sq0]
   refine' tk 7 undef rfl rfl (.inr ⟨by rfl,rfl⟩) hHeld ?_
   simp only [sq1,sq0]
   refine' tk 8 undef rfl rfl (.inr ⟨by rfl,rfl⟩) hHeld ?_
   simp only [sq1,sq0]
   refine rd1 9 rfl (fun K hK=>?_)
   go_simp
   refine hK.out _ _ hHeld (fun hHeld1=>?_)
   clear hK K hHeld1 hHeld
   refine wpAnyH_done (by kernel_rfl) ?_ _
   have Q5:=HQD
   obtain ⟨u5,hu5⟩:∃ u5,u5=u3.drew:=⟨_,rfl⟩
   rw [← hu5] at Q5
   rw [← hu5]
   clear hu5
  case' pos.true =>
   have HR:=Hd (show QS B N w m ps ai r3 34 (a8 d) u5 by rw [px HPLN.out];exact Q5.out)
   go_wp2_with (first
    | ((with_reducible show wpList _ _ _ (⟨some 42,_,_,_,_,_⟩::_) _ _);refine wpList_load_mid rfl 34 _ rfl m 0 rfl r3 _ HR.out.main.range Tryz.underlying34 rfl hl3.out ?_)
    | ((with_reducible show wpList _ _ _ (⟨none,.store 34 (.tmp 2) (.tmp 42),_,_,_,_⟩::_) _ _);refine aD rfl 34 _ _ rfl (w.heap.size+1) 0 r3 rfl rfl 34 ai r3 HR.out.prg hl3.out (by rw [R3.out];simp [ai]) (by rw [R3.out];decide) ho3.out ?_))
   refine bodyPost_ret (results_cell_row rfl _ _ (w.heap.size+1) 34 r3.toArray (0,0) _ rfl (HR.out.prg.setRow _) Tryz.underlying34 rfl hl3b.out) rfl ?_
   exact ⟨r3,rfl,(HR.out.safe.keep (pZ (by omega) _)).here ((below_setRow HR.out.low (by omega) _).mono HB0.out),below_setRow HR.out.low (by omega) _⟩
  all_goals
   obtain ⟨fl,hfl⟩:∃ fl,[r3,bcs].flatten=fl:=⟨_,rfl⟩
   have HFL:=Hd hfl
   clear hfl
   have OB:=Hd (bg.old (L:=w.heap.size+2) (m:=m) HBA.out (Nat.le_trans HB0.out Q5.out.low.size))
   have HL:=Hd (show bg B w (w.heap.size+2) m N (a8 d) (aT 9 ⟨#[]⟩ (.slice (some ⟨u5.heap.size,0,none⟩) 2 2)) (u5.alloc (.cells fl.toArray 34)) by
    rw [pz HPLN.out,← HFL.out]
    exact bg.list (xs:=[ch d,d.body]) (rows:=[r3,bcs]) rfl (AQ (P:=fun x r=>bg B w (w.heap.size+2) m N x r u5) Q5.out.safe OB.out) (Nat.le_trans Q5.out.hm (Nat.le_of_lt Q5.out.main.lt)) Q5.out.main.lt (op_n:=9) rfl (by decide) (Nat.zero_le _) (by simp;omega))
   have QA:=Hd (Q5.out.then (af u5 (.cells fl.toArray 34)))
   go_wp2_with (first
    | ((with_reducible show wpList _ _ _ (⟨some 43,_,_,_,_,_⟩::_) _ _);refine wpList_load_mid rfl 34 _ rfl m 0 rfl r3 _ Q5.out.main.range Tryz.underlying34 rfl hl3.out ?_)
    | ((with_reducible show wpList _ _ _ (⟨some 45,_,_,_,_,_⟩::_) _ _);refine wpList_load_mid rfl 34 _ rfl w.heap.size 37 rfl bcs _ (Q5.out.pln.cells.partU HPB.out) Tryz.underlying34 rfl hlb.out ?_)
    | ((with_reducible show wpList _ _ _ (⟨some 46,_,_,_,_,_⟩::_) _ _);refine dN rfl [r3,bcs] fl HFL.out 2 _ rfl rfl (by decide) (by decide) (AL R3.out HLB.out) (by rw [List.map_toArray];rfl) ?_)
    | ((with_reducible show wpList _ _ _ (⟨none,.store 34 (.tmp 2) (.tmp 47),_,_,_,_⟩::_) _ _);refine aD rfl 34 _ _ rfl (w.heap.size+1) 0 (aT 9 ⟨#[]⟩ (.slice (some ⟨u5.heap.size,0,none⟩) 2 2)) rfl rfl 34 ai (aT 9 ⟨#[]⟩ (.slice (some ⟨u5.heap.size,0,none⟩) 2 2)) QA.out.prg (by kernel_rfl) rfl (Nat.le_refl 17) (bw _ _ rfl) ?_))
   refine bodyPost_ret (results_cell_row rfl _ _ (w.heap.size+1) 34 (aT 9 ⟨#[]⟩ (.slice (some ⟨u5.heap.size,0,none⟩) 2 2)).toArray (0,0) _ rfl (QA.out.prg.setRow _) Tryz.underlying34 rfl (by kernel_rfl)) rfl ?_
   exact ⟨_,rfl,(HL.out.keep (pZ (by omega) _)).here ((below_setRow QA.out.low (by omega) _).mono HB0.out),below_setRow QA.out.low (by omega) _⟩
end Go.Proofs.YtiefeajappjnbaaGreatDoor
