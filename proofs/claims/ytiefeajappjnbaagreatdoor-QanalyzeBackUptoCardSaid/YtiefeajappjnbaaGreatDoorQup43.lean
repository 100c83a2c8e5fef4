/- qanalyze.query gives the program of a plan (printed by genqup43.py). -/
import Derived.Test.YtiefeajappjnbaaGreatDoorGA
import Derived.Test.YtiefeajappjnbaaGreatDoorNB
import Derived.Test.YtiefeajappjnbaaGreatDoorHK
namespace Go.Proofs.YtiefeajappjnbaaGreatDoor
open Go.RowKit
theorem aj.partU {u:World} {b:Nat} {xs vs:List Value} {o n:Nat} (h:aj u b 0 xs) (hv:(xs.drop o).take n=vs):u.rangeAt b o vs:=fun j v hj=>by
 subst hv
 rw [List.getElem?_take] at hj
 split at hj
 ·rw [List.getElem?_drop] at hj
  have:=h.range (o+j) v hj
  rwa [Nat.zero_add] at this
 ·cases hj
def bZ:List Value:=.slice none 0 0::ai
def jL:Array (Nat×Nat):=#[(0,1),(1,17)]
theorem Ch (a:Option Addr) (n c:Nat) (bcs:List Value) (hb:bcs.length=17):Instr.fill (jL[·]?) bZ.toArray [(0,.slice a n c),(1,.agg bcs.toArray)]=some (.slice a n c::bcs:List Value).toArray:=by
 have h0:Instr.fill (jL[·]?) bZ.toArray [(0,.slice a n c),(1,.agg bcs.toArray)]=Instr.fill (jL[·]?) (.slice a n c::ai:List Value).toArray [(1,.agg bcs.toArray)]:=rfl
 rw [h0]
 have hs:(.slice a n c::ai:List Value).toArray.size=18:=rfl
 have hc:(Value.agg bcs.toArray).cells=bcs.toArray:=rfl
 have hp:jL[1]?=some (1,17):=rfl
 rw [Instr.fill]
 simp only [hp,hc,hs,List.size_toArray,hb]
 rw [if_neg (by decide)]
 have h:List.foldl (fun (a:Array Value) (x:Value×Nat)=>a.setIfInBounds (1+x.2) x.1) (.slice a n c::ai:List Value).toArray bcs.zipIdx=(.slice a n c::bcs:List Value).toArray:=by
  rw [ij 1,me bcs 1 _ (by rw [hb];exact (by decide:1+17≤18)),hb]
  show ([Value.slice a n c]++bcs++[]).toArray=_
  simp
 rw [← Array.foldl_toList,Array.toList_zipIdx]
 exact congrArg (fun z=>Instr.fill (jL[·]?) z []) h
theorem rW (a:Option Addr) (n c:Nat) (bcs:List Value) (hb:bcs.length=17):Tryz.prog.built 61 [(0,.slice a n c),(1,.agg bcs.toArray)]=some (.slice a n c::bcs:List Value).toArray:=by
 have p1:(Tryz.prog.info? 61).bind (·.zero)=some (.agg bZ.toArray):=by kernel_rfl
 have p2:(Tryz.prog.fieldsOf 61).toList.mapM (fun f=>(Tryz.prog.info? f.type).map fun i=>(f.offset,i.size))=some [(0,1),(1,17)]:=by kernel_rfl
 have hu:Tryz.prog.underlying 61=some (.struct (Tryz.prog.fieldsOf 61)):=by kernel_rfl
 cases hi:Tryz.prog.info? 61 with
 | none=>rw [hi] at p1;cases p1
 | some it =>
   rw [hi] at p1
   have p1':it.zero=some (.agg bZ.toArray):=p1
   unfold Program.built
   rw [hi,hu]
   simp only [p1',p2]
   exact Ch a n c bcs hb
structure QS (B N:Nat) (w:World) (m:Nat) (ps zs row:List Value) (zt:TypeId) (x:ag) (u:World):Prop where
 low:Below w.heap.size w u
 pln:aq 58 u w.heap.size ps
 prg:aq zt u (w.heap.size+1) zs
 main:aq 34 u m row
 safe:bg B w (w.heap.size+2) m N x row u
 hm:w.heap.size+2≤m
theorem QS.then {B N m:Nat} {w u u':World} {ps zs row:List Value} {zt:TypeId} {x:ag} (h:QS B N w m ps zs row zt x u) (hb:Below u.heap.size u u'):QS B N w m ps zs row zt x u' :=
 ⟨ae h.low hb,h.pln.then hb,h.prg.then hb,h.main.then hb,h.safe.below hb,h.hm⟩
theorem QS.put {B N m:Nat} {w u:World} {ps zs row new:List Value} {zt:TypeId} {x y:ag} (h:QS B N w m ps zs row zt x u) (hs:bg B w (w.heap.size+2) m N y new u):QS B N w m ps zs new zt y (u.setRow m new.toArray) :=
 ⟨below_setRow h.low (by have:=h.hm;omega) _,h.pln.setRowOther (by have:=h.hm;omega) _,h.prg.setRowOther (by have:=h.hm;omega) _,h.main.setRow _,hs.keep (zT _),h.hm⟩
theorem QS.copy {B N m:Nat} {w u u':World} {ps zs row cs:List Value} {zt:TypeId} {x y:ag} (h:QS B N w m ps zs row zt x u) (hB:B≤w.heap.size) (hs:bF u.heap.size none u' (fun c=>Below B u c→ag.At c c.heap.size N y cs)) (hb:Below u.heap.size u u'):bg B w (w.heap.size+2) m N y cs u' :=
 bg.copy hs (h.low.mono hB) hb (Nat.le_trans hB h.low.size) (Nat.le_trans h.hm (Nat.le_of_lt h.main.lt)) h.main.lt
theorem wN {P:ag→List Value→Prop} {a b c:ag} {r s t:List Value} (h1:P a r) (h2:P b s) (h3:P c t):∀ i (_hi:i<[a,b,c].length) (_hi':i<[r,s,t].length),P [a,b,c][i] [r,s,t][i]
 | 0,_,_=>h1
 | 1,_,_=>h2
 | 2,_,_=>h3
theorem AP {P:ag→List Value→Prop} {a b c d:ag} {r s t v:List Value} (h1:P a r) (h2:P b s) (h3:P c t) (h4:P d v):∀ i (_hi:i<[a,b,c,d].length) (_hi':i<[r,s,t,v].length),P [a,b,c,d][i] [r,s,t,v][i]
 | 0,_,_=>h1
 | 1,_,_=>h2
 | 2,_,_=>h3
 | 3,_,_=>h4
theorem AQ {P:ag→List Value→Prop} {a b:ag} {r s:List Value} (h1:P a r) (h2:P b s):∀ i (_hi:i<[a,b].length) (_hi':i<[r,s].length),P [a,b][i] [r,s][i]
 | 0,_,_=>h1
 | 1,_,_=>h2
theorem lU (B:Nat) (w:World) (L m N:Nat) (u:World):bg B w L m N jM (aT 30 ⟨#[]⟩ (.slice none 0 0)) u:=⟨rfl,bw _ _ rfl,fun _ _ _=>lh (l:=[]) (a:=none) (c:=0) (op_n:=30) rfl (by decide) (Nat.zero_le _) (Nat.zero_le _) (Nat.le_refl _) trivial⟩
theorem wc {a b c:List Value} (h1:a.length=17) (h2:b.length=17) (h3:c.length=17):∀ r∈[a,b,c],r.length=17:=by
 intro r hr
 simp at hr
 rcases hr with rfl | rfl | rfl<;>assumption
theorem AL {a b:List Value} (h1:a.length=17) (h2:b.length=17):∀ r∈[a,b],r.length=17:=by
 intro r hr
 simp at hr
 rcases hr with rfl | rfl<;>assumption
theorem AK {a b c d:List Value} (h1:a.length=17) (h2:b.length=17) (h3:c.length=17) (h4:d.length=17):∀ r∈[a,b,c,d],r.length=17:=by
 intro r hr
 simp at hr
 rcases hr with rfl | rfl | rfl | rfl<;>assumption
theorem sO {d:br} (h:d.mode=2):ch d=.mk 19 d.name bk [aX d.steps,d.init,d.upd] []:=by unfold ch;rw [if_pos h]
theorem sN {d:br} (h:d.mode=3):ch d=.mk 20 d.name bk [aX d.steps,d.init,d.upd,jM] []:=by unfold ch;rw [if_neg (by omega),if_pos h]
theorem sM {d:br} (h:d.mode≠2) (h3:d.mode≠3):ch d=aX d.steps:=by unfold ch;rw [if_neg h,if_neg h3]
theorem px {d:br} (h:cr d.body=true):a8 d=ch d:=by unfold a8;rw [if_pos h]
theorem pz {d:br} (h:cr d.body=false):a8 d=.mk 9 ⟨#[]⟩ bk [ch d,d.body] []:=by unfold a8;rw [if_neg (by rw [h];decide)]
def DZ (B N:Nat) (d:br) (l:List al) (w:World) (e:Ending) (w':World):Prop:=∃ a c ms,e=.returned (.agg (.slice a l.length c::ms:List Value).toArray)∧ms.length=17∧(∀ v∈ms,v.oneCell'=true)∧bF w.heap.size none w' (fun c=>Below B w c→av c c.heap.size N l a∧ag.At c c.heap.size N (a8 d) ms)∧Below w.heap.size w w'
set_option maxRecDepth 100000 in
set_option maxHeartbeats 25600000 in
theorem oa (d:br) (l:List al) (ps:List Value) (w:World) (B N:Nat) (hN:N≤1048576) (hN1:20≤N) (hB:B≤w.heap.size) (h48:d.steps.length≤48) (hpr:d.steps.all aW=true) (hp:cJ w B N d l ps):Calls Tryz.prog 39 #[.agg ps.toArray] w (DZ B N d l w):=by
 obtain ⟨sa,sc,ics,ucs,bcs,fa,fc,hh⟩:=hp.has
 have hplen:=hp.len
 have HPL:=Hd (show (Tryz.prog.info? 58).map (·.size)=some ps.length by rw [hplen];exact aO)
 obtain ⟨md,hmd⟩:∃ v,d.mode=v:=⟨_,rfl⟩
 obtain ⟨nm,hnm⟩:∃ v,d.name=v:=⟨_,rfl⟩
 obtain ⟨k,hk⟩:∃ v,d.steps.length=v:=⟨_,rfl⟩
 obtain ⟨ln,hln⟩:∃ v,l.length=v:=⟨_,rfl⟩
 have HMD:=Hd hmd
 have HNM:=Hd hnm
 have HK:=Hd hk
 have HLN:=Hd hln
 have HC0:=Hd (show ps[0]?=some (.int .i64 md) by rw [← hmd];exact hh.mode)
 have HC1:=Hd (show ps[1]?=some (.slice sa k sc) by rw [← hk];exact hh.steps)
 have HC2:=Hd (show ps[2]?=some (.string nm) by rw [← hnm];exact hh.name)
 have HC6:=Hd (show ps[54]?=some (.slice fa ln fc) by rw [← hln];exact hh.funcs)
 have HPI:=Hd hh.init
 have HPU:=Hd hh.upd
 have HPB:=Hd hh.body
 have HSA:=Hd hh.atSteps
 have HIA:=Hd hh.atInit
 have HUA:=Hd hh.atUpd
 have HBA:=Hd hh.atBody
 have HFA:=Hd hh.atFuncs
 have hli:=Hd (show (Tryz.prog.info? 34).map (·.size)=some ics.length by rw [hh.atInit.len];exact ay)
 have hlu:=Hd (show (Tryz.prog.info? 34).map (·.size)=some ucs.length by rw [hh.atUpd.len];exact ay)
 have hlb:=Hd (show (Tryz.prog.info? 34).map (·.size)=some bcs.length by rw [hh.atBody.len];exact ay)
 have HNN:=Hd (show nm.size≤N by rw [← hnm];exact hh.hn)
 have HLL:=Hd (show l.length≤N from hh.hl)
 have HPR:=Hd hpr
 have HB0:=Hd hB
 have h48k:k≤48:=by rw [← hk];exact h48
 obtain ⟨wA,hwA⟩:∃ wA,wA=(w.alloc (.cells ps.toArray 58)).alloc (.cells #[.slice none 0 0,.int .i64 0,.string ⟨#[]⟩,.int .i64 0,.bool false,.bool false,.string ⟨#[]⟩,.int .i64 0,.int .i64 0,.int .i64 0,.int .i64 0,.int .i64 0,.string ⟨#[]⟩,.slice none 0 0,.slice none 0 0,.slice none 0 0,.slice none 0 0,.slice none 0 0] 61):=⟨_,rfl⟩
 have BA:=Hd (show Below w.heap.size w wA by rw [hwA];exact ae (af w _) (af _ _))
 have PA:=Hd (show aq 58 wA w.heap.size ps by rw [hwA];exact (aq.new w 58 ps).alloc _)
 have ZA:=Hd (show aq 61 wA (w.heap.size+1) bZ by
  have h:=aq.new (w.alloc (.cells ps.toArray 58)) 61 bZ
  rw [World.size_alloc] at h
  rw [hwA];exact h)
 have hsA:=Hd (show wA.heap.size=w.heap.size+2 by rw [hwA,World.size_alloc,World.size_alloc])
 have HWA:=Hd hwA
 have c1:=PA.out.cell HC1.out
 rw [hwA] at c1
 clear hh hp hplen hmd hnm hk hln hwA h48 hpr
 go_enter Tryz.func39,Tryz.ntmps39
 go_wp2_with fail
 rw [← HWA.out]
 clear c1
 have HKK:=Hd HK.out.symm
 refine (show Calls Tryz.prog 80 #[.slice sa k sc] wA (AJ N (aX d.steps) wA) by rw [HKK.out];exact oF d.steps sa sc wA B N hN hN1 (by rw [hsA.out];have:=HB0.out;omega) (by rw [← HKK.out];exact h48k) HPR.out (bB.below (BA.out.mono HB0.out) _ HSA.out)).mono ?_
 rintro e w1 ⟨row,rfl,hsf,hb1⟩
 have hlen:=hsf.1
 have hlr:=Hd (show (Tryz.prog.info? 34).map (·.size)=some row.length by rw [hlen];kernel_rfl)
 have hlr2:=Hd (show (Tryz.prog.info? 34).map (·.size)=some row.toArray.size by rw [List.size_toArray,hlen];kernel_rfl)
 have hlr3:=Hd (show bH.size=row.toArray.size by show 17=_;rw [List.size_toArray,hlen])
 have hone:=Hd (show row.toArray.all (·.oneCell')=true from Go.all_oneCell_toArray hsf.2.1)
 have HRL:=Hd hlen
 obtain ⟨wC,hwC⟩:∃ wC,wC=w1.alloc (.cells row.toArray 34):=⟨_,rfl⟩
 obtain ⟨m,hm⟩:∃ m,m=w1.heap.size:=⟨_,rfl⟩
 have HQ:=Hd (show QS B N w m ps bZ row 61 (aX d.steps) wC by
  have hs1:=hb1.size
  rw [hsA.out] at hs1
  rw [hwC,hm]
  exact ⟨ae (ae BA.out hb1) (af _ _),(PA.out.then hb1).alloc _,(ZA.out.then hb1).alloc _,aq.new w1 34 row,(show bV (w.heap.size+2) N _ row w1 by rw [← hsA.out];exact hsf).toB (af w1 _) (Nat.le_refl _),hs1⟩)
 have HWC:=Hd hwC
 have HM:=Hd hm
 have c0:=HQ.out.pln.cell HC0.out
 rw [hwC] at c0
 clear hwC hsf hb1 hlen hm
 have hcase:md=2∨md=3∨(md≠2∧md≠3):=by omega
 rcases hcase with rfl | rfl | ⟨h2,h3⟩
 case' inl =>
  go_wp2_with ((with_reducible show wpList _ _ _ (⟨none,.store 34 (.tmp 3) (.tmp 6),_,_,_,_⟩::_) _ _);refine ak rfl 34 _ _ rfl bH row.toArray rfl rfl hlr2.out hlr3.out hone.out ?_)
  rw [← HWC.out,← HM.out]
  have HQD:=Hd (HQ.out.then (b7 wC))
  have KD:=Hd (b7 wC)
  have HLS:=Hd HQ.out.low.size
  refine wp_region_held_drew (S:=fun wu=>Below w.heap.size wC wu∧aq 58 wu w.heap.size ps) (by kernel_rfl) ⟨(b7 wC).mono HQ.out.low.size,HQ.out.pln⟩ (fun hHeld=>?_)
  refine' tk 0 (.pointer (some ⟨w.heap.size,2,none⟩)) rfl rfl (.inl ⟨by rfl,fun u hu=>(by go_simp)⟩) hHeld ?_
  simp only [sq1,sq0]
  refine' tk 1 (.string nm) rfl rfl (.inl ⟨by rfl,fun u hu=>(by have hc:=hu.2.cell HC2.out;go_simp)⟩) hHeld ?_
  simp only [sq1,sq0]
  refine' tk 3 (.pointer (some ⟨w.heap.size,3,none⟩)) rfl rfl (.inl ⟨by rfl,fun u hu=>(by go_simp)⟩) hHeld ?_
  simp only [sq1,sq0]
  refine' tk 4 _ rfl rfl (yieldsIf_load_mid (by kernel_rfl) 34 _ rfl (w.heap.size) (3) rfl ics _ (fun u hu=>hu.2.cells.partU HPI.out) Tryz.underlying34 rfl hli.out) hHeld ?_
  simp only [sq1,sq0]
  refine' tk 6 (.pointer (some ⟨w.heap.size,20,none⟩)) rfl rfl (.inl ⟨by rfl,fun u hu=>(by go_simp)⟩) hHeld ?_
  simp only [sq1,sq0]
  refine' tk 7 _ rfl rfl (yieldsIf_load_mid (by kernel_rfl) 34 _ rfl (w.heap.size) (20) rfl ucs _ (fun u hu=>hu.2.cells.partU HPU.out) Tryz.underlying34 rfl hlu.out) hHeld ?_
  simp only [sq1,sq0]
  refine wpAnyH_ready (rs:=[2,5]) (by kernel_rfl) (by simp) ?_
  refine AllReadyH.cons rfl (fun K hK=>?_) (AllReadyH.cons rfl (fun K hK=>?_) AllReadyH.nil)
  rw [if_pos (by kernel_rfl)]
  refine wp_load_mid 34 _ rfl m 0 rfl row _ (HQD.out.main).range Tryz.underlying34 rfl hlr.out ?_
  simp only [List.getElem_toArray,Act.put]
  refine hK.out _ _ hHeld (fun hHeld1=>?_)
  clear hK K hHeld1
  refine rd1 5 rfl (fun K hK=>?_)
  go_simp
  refine (cH d.init _ B N ics hN (Nat.le_trans HB0.out HQD.out.low.size) (HIA.out.below (HQD.out.low.mono HB0.out))).mono ?_
  rintro e u1 ⟨ms1,rfl,hs1,hb1⟩
  have Q1:=Hd (HQD.out.then hb1)
  have M1:=Hd (HQD.out.copy HB0.out hs1 hb1)
  have K1:=Hd (ae KD.out hb1)
  refine hK.out _ _ ⟨K1.out.mono HLS.out,Q1.out.pln⟩ (fun hHeld1=>?_)
  clear hK K hHeld1
  clear hs1 hb1
  refine rd1 8 rfl (fun K hK=>?_)
  go_simp
  refine (cH d.upd _ B N ucs hN (Nat.le_trans HB0.out Q1.out.low.size) (HUA.out.below (Q1.out.low.mono HB0.out))).mono ?_
  rintro e u2 ⟨ms2,rfl,hs2,hb2⟩
  have Q2:=Hd (Q1.out.then hb2)
  have M2:=Hd (Q1.out.copy HB0.out hs2 hb2)
  have K2:=Hd (ae K1.out hb2)
  have M1':=Hd (M1.out.below hb2)
  refine hK.out _ _ ⟨K2.out.mono HLS.out,Q2.out.pln⟩ (fun hHeld1=>?_)
  clear hK K hHeld1
  clear hs2 hb2
  rotate_left
  go_simp
  refine (cH d.init _ B N ics hN (Nat.le_trans HB0.out HQD.out.low.size) (HIA.out.below (HQD.out.low.mono HB0.out))).mono ?_
  rintro e u1 ⟨ms1,rfl,hs1,hb1⟩
  have Q1:=Hd (HQD.out.then hb1)
  have M1:=Hd (HQD.out.copy HB0.out hs1 hb1)
  have K1:=Hd (ae KD.out hb1)
  refine hK.out _ _ ⟨K1.out.mono HLS.out,Q1.out.pln⟩ (fun hHeld1=>?_)
  clear hK K hHeld1
  clear hs1 hb1
  refine wpAnyH_ready (rs:=[2,8]) (by kernel_rfl) (by simp) ?_
  refine AllReadyH.cons rfl (fun K hK=>?_) (AllReadyH.cons rfl (fun K hK=>?_) AllReadyH.nil)
  rw [if_pos (by kernel_rfl)]
  refine wp_load_mid 34 _ rfl m 0 rfl row _ (Q1.out.main).range Tryz.underlying34 rfl hlr.out ?_
  simp only [List.getElem_toArray,Act.put]
  refine hK.out _ _ ⟨K1.out.mono HLS.out,Q1.out.pln⟩ (fun hHeld1=>?_)
  clear hK K hHeld1
  refine rd1 8 rfl (fun K hK=>?_)
  go_simp
  refine (cH d.upd _ B N ucs hN (Nat.le_trans HB0.out Q1.out.low.size) (HUA.out.below (Q1.out.low.mono HB0.out))).mono ?_
  rintro e u2 ⟨ms2,rfl,hs2,hb2⟩
  have Q2:=Hd (Q1.out.then hb2)
  have M2:=Hd (Q1.out.copy HB0.out hs2 hb2)
  have K2:=Hd (ae K1.out hb2)
  have M1':=Hd (M1.out.below hb2)
  refine hK.out _ _ ⟨K2.out.mono HLS.out,Q2.out.pln⟩ (fun hHeld1=>?_)
  clear hK K hHeld1
  clear hs2 hb2
  rotate_left
  go_simp
  refine (cH d.upd _ B N ucs hN (Nat.le_trans HB0.out Q1.out.low.size) (HUA.out.below (Q1.out.low.mono HB0.out))).mono ?_
  rintro e u2 ⟨ms2,rfl,hs2,hb2⟩
  have Q2:=Hd (Q1.out.then hb2)
  have M2:=Hd (Q1.out.copy HB0.out hs2 hb2)
  have K2:=Hd (ae K1.out hb2)
  have M1':=Hd (M1.out.below hb2)
  refine hK.out _ _ ⟨K2.out.mono HLS.out,Q2.out.pln⟩ (fun hHeld1=>?_)
  clear hK K hHeld1
  clear hs2 hb2
  refine rd1 2 rfl (fun K hK=>?_)
  rw [if_pos (by kernel_rfl)]
  refine wp_load_mid 34 _ rfl m 0 rfl row _ (Q2.out.main).range Tryz.underlying34 rfl hlr.out ?_
  simp only [List.getElem_toArray,Act.put]
  refine hK.out _ _ ⟨K2.out.mono HLS.out,Q2.out.pln⟩ (fun hHeld1=>?_)
  clear hK K hHeld1
  all_goals
   obtain ⟨fl,hfl⟩:∃ fl,[row,ms1,ms2].flatten=fl:=⟨_,rfl⟩
   have HFL:=Hd hfl
   clear hfl
   refine rd1 9 rfl (fun K hK=>?_)
   rw [if_pos (by kernel_rfl)]
   refine eo [row,ms1,ms2] fl HFL.out 3 _ rfl rfl (by decide) (by decide) (wc HRL.out M1.out.1 M2.out.1) (by rw [List.map_toArray];rfl) ?_
   simp only [List.getElem_toArray,List.getElem_cons_succ,List.getElem_cons_zero,Act.put]
   have HL:=Hd (show bg B w (w.heap.size+2) m N (ch d) (aT 19 nm (.slice (some ⟨u2.heap.size,0,none⟩) 3 3)) (u2.alloc (.cells fl.toArray 34)) by
    rw [sO HMD.out,HNM.out,← HFL.out]
    exact bg.list (xs:=[aX d.steps,d.init,d.upd]) (rows:=[row,ms1,ms2]) rfl (wN (P:=fun x r=>bg B w (w.heap.size+2) m N x r u2) Q2.out.safe M1'.out M2.out) (Nat.le_trans Q2.out.hm (Nat.le_of_lt Q2.out.main.lt)) Q2.out.main.lt (op_n:=19) rfl (by decide) HNN.out (by simp;omega))
   have KA:=Hd ((K2.out.mono HLS.out).alloc (Nat.le_trans HLS.out K2.out.size) (.cells fl.toArray 34))
   have QA:=Hd (Q2.out.then (af u2 (.cells fl.toArray 34)))
   refine hK.out _ _ ⟨KA.out,QA.out.pln⟩ (fun hHeld1=>?_)
   clear hK K hHeld1
   refine rd1 10 rfl (fun K hK=>?_)
   go_simp
   refine hK.out _ _ ⟨KA.out,QA.out.pln⟩ (fun hHeld1=>?_)
   clear hK K hHeld1
   refine rd1 11 rfl (fun K hK=>?_)
   rw [if_pos (by kernel_rfl)]
   refine bn 34 _ _ rfl m 0 (aT 19 nm (.slice (some ⟨u2.heap.size,0,none⟩) 3 3)) rfl rfl 34 row (aT 19 nm (.slice (some ⟨u2.heap.size,0,none⟩) 3 3)) QA.out.main (by kernel_rfl) (eQ HRL.out rfl) (eR HRL.out rfl) (bw _ _ rfl) ?_
   simp only [List.getElem_toArray,List.getElem_cons_succ,List.getElem_cons_zero,Act.put]
   have Q3:=Hd (QA.out.put HL.out)
   refine hK.out _ _ ⟨below_setRow KA.out (by have:=QA.out.hm;omega) _,Q3.out.pln⟩ (fun hHeld1=>?_)
   clear hK K hHeld1 hHeld
   refine wpAnyH_done (by kernel_rfl) ?_ _
   obtain ⟨u3,hu3⟩:∃ u3,u3=(u2.alloc (.cells fl.toArray 34)).setRow m (aT 19 nm (.slice (some ⟨u2.heap.size,0,none⟩) 3 3)).toArray:=⟨_,rfl⟩
   obtain ⟨r3,hr3⟩:∃ r3,r3=(aT 19 nm (.slice (some ⟨u2.heap.size,0,none⟩) 3 3)):=⟨_,rfl⟩
   rw [← hu3,← hr3] at Q3
   rw [← hu3]
   clear hu3 hr3 HL KA QA Q2 Q1 M1 M2 M1' K1 K2 HQD KD HLS
   go_wp2_with ((with_reducible show wpList _ _ _ (⟨some 37,_,_,_,_,_⟩::_) _ _);refine wpList_load_mid rfl 34 _ rfl w.heap.size 37 rfl bcs _ (Q3.out.pln.cells.partU HPB.out) Tryz.underlying34 rfl hlb.out ?_)
 case' inr.inl =>
  go_wp2_with ((with_reducible show wpList _ _ _ (⟨none,.store 34 (.tmp 3) (.tmp 6),_,_,_,_⟩::_) _ _);refine ak rfl 34 _ _ rfl bH row.toArray rfl rfl hlr2.out hlr3.out hone.out ?_)
  rw [← HWC.out,← HM.out]
  have HQD:=Hd (HQ.out.then (b7 wC))
  have KD:=Hd (b7 wC)
  have HLS:=Hd HQ.out.low.size
  refine wp_region_held_drew (S:=fun wu=>Below w.heap.size wC wu∧aq 58 wu w.heap.size ps) (by kernel_rfl) ⟨(b7 wC).mono HQ.out.low.size,HQ.out.pln⟩ (fun hHeld=>?_)
  refine' tk 0 (.pointer (some ⟨w.heap.size,2,none⟩)) rfl rfl (.inl ⟨by rfl,fun u hu=>(by go_simp)⟩) hHeld ?_
  simp only [sq1,sq0]
  refine' tk 1 (.string nm) rfl rfl (.inl ⟨by rfl,fun u hu=>(by have hc:=hu.2.cell HC2.out;go_simp)⟩) hHeld ?_
  simp only [sq1,sq0]
  refine' tk 3 (.pointer (some ⟨w.heap.size,3,none⟩)) rfl rfl (.inl ⟨by rfl,fun u hu=>(by go_simp)⟩) hHeld ?_
  simp only [sq1,sq0]
  refine' tk 4 _ rfl rfl (yieldsIf_load_mid (by kernel_rfl) 34 _ rfl (w.heap.size) (3) rfl ics _ (fun u hu=>hu.2.cells.partU HPI.out) Tryz.underlying34 rfl hli.out) hHeld ?_
  simp only [sq1,sq0]
  refine' tk 6 (.pointer (some ⟨w.heap.size,20,none⟩)) rfl rfl (.inl ⟨by rfl,fun u hu=>(by go_simp)⟩) hHeld ?_
  simp only [sq1,sq0]
  refine' tk 7 _ rfl rfl (yieldsIf_load_mid (by kernel_rfl) 34 _ rfl (w.heap.size) (20) rfl ucs _ (fun u hu=>hu.2.cells.partU HPU.out) Tryz.underlying34 rfl hlu.out) hHeld ?_
  simp only [sq1,sq0]
  refine' tk 9 (.agg (aT 30 ⟨#[]⟩ (.slice none 0 0)).toArray) rfl rfl (.inl ⟨by rfl,fun u hu=>(by go_simp;rfl)⟩) hHeld ?_
  simp only [sq1,sq0]
  refine wpAnyH_ready (rs:=[2,5]) (by kernel_rfl) (by simp) ?_
  refine AllReadyH.cons rfl (fun K hK=>?_) (AllReadyH.cons rfl (fun K hK=>?_) AllReadyH.nil)
  rw [if_pos (by kernel_rfl)]
  refine wp_load_mid 34 _ rfl m 0 rfl row _ (HQD.out.main).range Tryz.underlying34 rfl hlr.out ?_
  simp only [List.getElem_toArray,Act.put]
  refine hK.out _ _ hHeld (fun hHeld1=>?_)
  clear hK K hHeld1
  refine rd1 5 rfl (fun K hK=>?_)
  go_simp
  refine (cH d.init _ B N ics hN (Nat.le_trans HB0.out HQD.out.low.size) (HIA.out.below (HQD.out.low.mono HB0.out))).mono ?_
  rintro e u1 ⟨ms1,rfl,hs1,hb1⟩
  have Q1:=Hd (HQD.out.then hb1)
  have M1:=Hd (HQD.out.copy HB0.out hs1 hb1)
  have K1:=Hd (ae KD.out hb1)
  refine hK.out _ _ ⟨K1.out.mono HLS.out,Q1.out.pln⟩ (fun hHeld1=>?_)
  clear hK K hHeld1
  clear hs1 hb1
  refine rd1 8 rfl (fun K hK=>?_)
  go_simp
  refine (cH d.upd _ B N ucs hN (Nat.le_trans HB0.out Q1.out.low.size) (HUA.out.below (Q1.out.low.mono HB0.out))).mono ?_
  rintro e u2 ⟨ms2,rfl,hs2,hb2⟩
  have Q2:=Hd (Q1.out.then hb2)
  have M2:=Hd (Q1.out.copy HB0.out hs2 hb2)
  have K2:=Hd (ae K1.out hb2)
  have M1':=Hd (M1.out.below hb2)
  refine hK.out _ _ ⟨K2.out.mono HLS.out,Q2.out.pln⟩ (fun hHeld1=>?_)
  clear hK K hHeld1
  clear hs2 hb2
  rotate_left
  go_simp
  refine (cH d.init _ B N ics hN (Nat.le_trans HB0.out HQD.out.low.size) (HIA.out.below (HQD.out.low.mono HB0.out))).mono ?_
  rintro e u1 ⟨ms1,rfl,hs1,hb1⟩
  have Q1:=Hd (HQD.out.then hb1)
  have M1:=Hd (HQD.out.copy HB0.out hs1 hb1)
  have K1:=Hd (ae KD.out hb1)
  refine hK.out _ _ ⟨K1.out.mono HLS.out,Q1.out.pln⟩ (fun hHeld1=>?_)
  clear hK K hHeld1
  clear hs1 hb1
  refine wpAnyH_ready (rs:=[2,8]) (by kernel_rfl) (by simp) ?_
  refine AllReadyH.cons rfl (fun K hK=>?_) (AllReadyH.cons rfl (fun K hK=>?_) AllReadyH.nil)
  rw [if_pos (by kernel_rfl)]
  refine wp_load_mid 34 _ rfl m 0 rfl row _ (Q1.out.main).range Tryz.underlying34 rfl hlr.out ?_
  simp only [List.getElem_toArray,Act.put]
  refine hK.out _ _ ⟨K1.out.mono HLS.out,Q1.out.pln⟩ (fun hHeld1=>?_)
  clear hK K hHeld1
  refine rd1 8 rfl (fun K hK=>?_)
  go_simp
  refine (cH d.upd _ B N ucs hN (Nat.le_trans HB0.out Q1.out.low.size) (HUA.out.below (Q1.out.low.mono HB0.out))).mono ?_
  rintro e u2 ⟨ms2,rfl,hs2,hb2⟩
  have Q2:=Hd (Q1.out.then hb2)
  have M2:=Hd (Q1.out.copy HB0.out hs2 hb2)
  have K2:=Hd (ae K1.out hb2)
  have M1':=Hd (M1.out.below hb2)
  refine hK.out _ _ ⟨K2.out.mono HLS.out,Q2.out.pln⟩ (fun hHeld1=>?_)
  clear hK K hHeld1
  clear hs2 hb2
  rotate_left
  go_simp
  refine (cH d.upd _ B N ucs hN (Nat.le_trans HB0.out Q1.out.low.size) (HUA.out.below (Q1.out.low.mono HB0.out))).mono ?_
  rintro e u2 ⟨ms2,rfl,hs2,hb2⟩
  have Q2:=Hd (Q1.out.then hb2)
  have M2:=Hd (Q1.out.copy HB0.out hs2 hb2)
  have K2:=Hd (ae K1.out hb2)
  have M1':=Hd (M1.out.below hb2)
  refine hK.out _ _ ⟨K2.out.mono HLS.out,Q2.out.pln⟩ (fun hHeld1=>?_)
  clear hK K hHeld1
  clear hs2 hb2
  refine rd1 2 rfl (fun K hK=>?_)
  rw [if_pos (by kernel_rfl)]
  refine wp_load_mid 34 _ rfl m 0 rfl row _ (Q2.out.main).range Tryz.underlying34 rfl hlr.out ?_
  simp only [List.getElem_toArray,Act.put]
  refine hK.out _ _ ⟨K2.out.mono HLS.out,Q2.out.pln⟩ (fun hHeld1=>?_)
  clear hK K hHeld1
  all_goals
   obtain ⟨fl,hfl⟩:∃ fl,[row,ms1,ms2,aT 30 ⟨#[]⟩ (.slice none 0 0)].flatten=fl:=⟨_,rfl⟩
   have HFL:=Hd hfl
   clear hfl
   refine rd1 10 rfl (fun K hK=>?_)
   rw [if_pos (by kernel_rfl)]
   refine eo [row,ms1,ms2,aT 30 ⟨#[]⟩ (.slice none 0 0)] fl HFL.out 4 _ rfl rfl (by decide) (by decide) (AK HRL.out M1.out.1 M2.out.1 rfl) (by rw [List.map_toArray];rfl) ?_
   simp only [List.getElem_toArray,List.getElem_cons_succ,List.getElem_cons_zero,Act.put]
   have HL:=Hd (show bg B w (w.heap.size+2) m N (ch d) (aT 20 nm (.slice (some ⟨u2.heap.size,0,none⟩) 4 4)) (u2.alloc (.cells fl.toArray 34)) by
    rw [sN HMD.out,HNM.out,← HFL.out]
    exact bg.list (xs:=[aX d.steps,d.init,d.upd,jM]) (rows:=[row,ms1,ms2,aT 30 ⟨#[]⟩ (.slice none 0 0)]) rfl (AP (P:=fun x r=>bg B w (w.heap.size+2) m N x r u2) Q2.out.safe M1'.out M2.out (lU B w (w.heap.size+2) m N u2)) (Nat.le_trans Q2.out.hm (Nat.le_of_lt Q2.out.main.lt)) Q2.out.main.lt (op_n:=20) rfl (by decide) HNN.out (by simp;omega))
   have KA:=Hd ((K2.out.mono HLS.out).alloc (Nat.le_trans HLS.out K2.out.size) (.cells fl.toArray 34))
   have QA:=Hd (Q2.out.then (af u2 (.cells fl.toArray 34)))
   refine hK.out _ _ ⟨KA.out,QA.out.pln⟩ (fun hHeld1=>?_)
   clear hK K hHeld1
   refine rd1 11 rfl (fun K hK=>?_)
   go_simp
   refine hK.out _ _ ⟨KA.out,QA.out.pln⟩ (fun hHeld1=>?_)
   clear hK K hHeld1
   refine rd1 12 rfl (fun K hK=>?_)
   rw [if_pos (by kernel_rfl)]
   refine bn 34 _ _ rfl m 0 (aT 20 nm (.slice (some ⟨u2.heap.size,0,none⟩) 4 4)) rfl rfl 34 row (aT 20 nm (.slice (some ⟨u2.heap.size,0,none⟩) 4 4)) QA.out.main (by kernel_rfl) (eQ HRL.out rfl) (eR HRL.out rfl) (bw _ _ rfl) ?_
   simp only [List.getElem_toArray,List.getElem_cons_succ,List.getElem_cons_zero,Act.put]
   have Q3:=Hd (QA.out.put HL.out)
   refine hK.out _ _ ⟨below_setRow KA.out (by have:=QA.out.hm;omega) _,Q3.out.pln⟩ (fun hHeld1=>?_)
   clear hK K hHeld1 hHeld
   refine wpAnyH_done (by kernel_rfl) ?_ _
   obtain ⟨u3,hu3⟩:∃ u3,u3=(u2.alloc (.cells fl.toArray 34)).setRow m (aT 20 nm (.slice (some ⟨u2.heap.size,0,none⟩) 4 4)).toArray:=⟨_,rfl⟩
   obtain ⟨r3,hr3⟩:∃ r3,r3=(aT 20 nm (.slice (some ⟨u2.heap.size,0,none⟩) 4 4)):=⟨_,rfl⟩
   rw [← hu3,← hr3] at Q3
   rw [← hu3]
   clear hu3 hr3 HL KA QA Q2 Q1 M1 M2 M1' K1 K2 HQD KD HLS
   go_wp2_with ((with_reducible show wpList _ _ _ (⟨some 37,_,_,_,_,_⟩::_) _ _);refine wpList_load_mid rfl 34 _ rfl w.heap.size 37 rfl bcs _ (Q3.out.pln.cells.partU HPB.out) Tryz.underlying34 rfl hlb.out ?_)
 case' inr.inr =>
  have e2:(md==2)=false:=by simpa using h2
  have e3:(md==3)=false:=by simpa using h3
  go_wp2_with (first
   | ((with_reducible show wpList _ _ _ (⟨none,.store 34 (.tmp 3) (.tmp 6),_,_,_,_⟩::_) _ _);refine ak rfl 34 _ _ rfl bH row.toArray rfl rfl hlr2.out hlr3.out hone.out ?_)
   | ((with_reducible show wpList _ _ _ (⟨some 37,_,_,_,_,_⟩::_) _ _);refine wpList_load_mid rfl 34 _ rfl w.heap.size 37 rfl bcs _ (by rw [← HWC.out];exact HQ.out.pln.cells.partU HPB.out) Tryz.underlying34 rfl hlb.out ?_))
  rw [← HWC.out,← HM.out]
  have Q3:=Hd (show QS B N w m ps bZ row 61 (ch d) wC by rw [sM (by rw [HMD.out];exact h2) (by rw [HMD.out];exact h3)];exact HQ.out)
  obtain ⟨u3,hu3⟩:∃ u3,u3=wC:=⟨_,rfl⟩
  obtain ⟨r3,hr3⟩:∃ r3,r3=row:=⟨_,rfl⟩
  rw [← hu3,← hr3] at Q3
  rw [← hu3]
  clear hu3 hr3
 all_goals
  clear c0
  have R3:=Hd Q3.out.safe.1
  have hl3:=Hd (show (Tryz.prog.info? 34).map (·.size)=some r3.length by rw [R3.out];kernel_rfl)
  refine (wm d.body _ B N bcs hN (Nat.le_trans HB0.out Q3.out.low.size) (HBA.out.below (Q3.out.low.mono HB0.out))).mono ?_
  rintro e u4 ⟨rfl,hb4⟩
  have Q4:=Hd (Q3.out.then hb4)
  clear hb4 Q3
  obtain ⟨pl,hpl⟩:∃ v,cr d.body=v:=⟨_,rfl⟩
  have HPLN:=Hd hpl
  rw [hpl]
  clear hpl
  cases pl
  case' true =>
   have Q6:=Hd (show QS B N w m ps bZ r3 61 (a8 d) u4 by rw [px HPLN.out];exact Q4.out)
   go_wp2_with fail
   obtain ⟨u6,hu6⟩:∃ u6,u6=u4:=⟨_,rfl⟩
   obtain ⟨r6,hr6⟩:∃ r6,r6=r3:=⟨_,rfl⟩
   rw [← hu6,← hr6] at Q6
   rw [← hu6]
   clear hu6 hr6
  case' false =>
   go_wp2_with fail
   have HQD:=Hd (Q4.out.then (b7 u4))
   have KD:=Hd (b7 u4)
   have HLS:=Hd Q4.out.low.size
   refine wp_region_held_drew (S:=fun wu=>Below w.heap.size u4 wu∧aq 58 wu w.heap.size ps) (by kernel_rfl) ⟨(b7 u4).mono Q4.out.low.size,Q4.out.pln⟩ (fun hHeld=>?_)
   refine' tk 1 (.pointer (some ⟨w.heap.size,37,none⟩)) rfl rfl (.inl ⟨by rfl,fun u hu=>(by go_simp)⟩) hHeld ?_
   simp only [sq1,sq0]
   refine' tk 2 _ rfl rfl (yieldsIf_load_mid (by kernel_rfl) 34 _ rfl (w.heap.size) (37) rfl bcs _ (fun u hu=>hu.2.cells.partU HPB.out) Tryz.underlying34 rfl hlb.out) hHeld ?_
   simp only [sq1,sq0]
   refine wpAnyH_ready (rs:=[0,3]) (by kernel_rfl) (by simp) ?_
   refine AllReadyH.cons rfl (fun K hK=>?_) (AllReadyH.cons rfl (fun K hK=>?_) AllReadyH.nil)
   rw [if_pos (by kernel_rfl)]
   refine wp_load_mid 34 _ rfl m 0 rfl r3 _ (HQD.out.main).range Tryz.underlying34 rfl hl3.out ?_
   simp only [List.getElem_toArray,Act.put]
   refine hK.out _ _ hHeld (fun hHeld1=>?_)
   clear hK K hHeld1
   refine rd1 3 rfl (fun K hK=>?_)
   go_simp
   refine (cH d.body _ B N bcs hN (Nat.le_trans HB0.out HQD.out.low.size) (HBA.out.below (HQD.out.low.mono HB0.out))).mono ?_
   rintro e u5 ⟨ms5,rfl,hs5,hb5⟩
   have Q5:=Hd (HQD.out.then hb5)
   have M5:=Hd (HQD.out.copy HB0.out hs5 hb5)
   have K5:=Hd (ae KD.out hb5)
   refine hK.out _ _ ⟨K5.out.mono HLS.out,Q5.out.pln⟩ (fun hHeld1=>?_)
   clear hK K hHeld1
   clear hs5 hb5
   rotate_left
   go_simp
   refine (cH d.body _ B N bcs hN (Nat.le_trans HB0.out HQD.out.low.size) (HBA.out.below (HQD.out.low.mono HB0.out))).mono ?_
   rintro e u5 ⟨ms5,rfl,hs5,hb5⟩
   have Q5:=Hd (HQD.out.then hb5)
   have M5:=Hd (HQD.out.copy HB0.out hs5 hb5)
   have K5:=Hd (ae KD.out hb5)
   refine hK.out _ _ ⟨K5.out.mono HLS.out,Q5.out.pln⟩ (fun hHeld1=>?_)
   clear hK K hHeld1
   clear hs5 hb5
   refine rd1 0 rfl (fun K hK=>?_)
   rw [if_pos (by kernel_rfl)]
   refine wp_load_mid 34 _ rfl m 0 rfl r3 _ (Q5.out.main).range Tryz.underlying34 rfl hl3.out ?_
   simp only [List.getElem_toArray,Act.put]
   refine hK.out _ _ ⟨K5.out.mono HLS.out,Q5.out.pln⟩ (fun hHeld1=>?_)
   clear hK K hHeld1
   all_goals
    obtain ⟨fl,hfl⟩:∃ fl,[r3,ms5].flatten=fl:=⟨_,rfl⟩
    have HFL:=Hd hfl
    clear hfl
    refine rd1 4 rfl (fun K hK=>?_)
    rw [if_pos (by kernel_rfl)]
    refine eo [r3,ms5] fl HFL.out 2 _ rfl rfl (by decide) (by decide) (AL R3.out M5.out.1) (by rw [List.map_toArray];rfl) ?_
    simp only [List.getElem_toArray,List.getElem_cons_succ,List.getElem_cons_zero,Act.put]
    have HL:=Hd (show bg B w (w.heap.size+2) m N (a8 d) (aT 9 ⟨#[]⟩ (.slice (some ⟨u5.heap.size,0,none⟩) 2 2)) (u5.alloc (.cells fl.toArray 34)) by
     rw [pz HPLN.out,← HFL.out]
     exact bg.list (xs:=[ch d,d.body]) (rows:=[r3,ms5]) rfl (AQ (P:=fun x r=>bg B w (w.heap.size+2) m N x r u5) Q5.out.safe M5.out) (Nat.le_trans Q5.out.hm (Nat.le_of_lt Q5.out.main.lt)) Q5.out.main.lt (op_n:=9) rfl (by decide) (Nat.zero_le _) (by simp;omega))
    have KA:=Hd ((K5.out.mono HLS.out).alloc (Nat.le_trans HLS.out K5.out.size) (.cells fl.toArray 34))
    have QA:=Hd (Q5.out.then (af u5 (.cells fl.toArray 34)))
    refine hK.out _ _ ⟨KA.out,QA.out.pln⟩ (fun hHeld1=>?_)
    clear hK K hHeld1
    refine rd1 5 rfl (fun K hK=>?_)
    go_simp
    refine hK.out _ _ ⟨KA.out,QA.out.pln⟩ (fun hHeld1=>?_)
    clear hK K hHeld1
    refine rd1 6 rfl (fun K hK=>?_)
    rw [if_pos (by kernel_rfl)]
    refine bn 34 _ _ rfl m 0 (aT 9 ⟨#[]⟩ (.slice (some ⟨u5.heap.size,0,none⟩) 2 2)) rfl rfl 34 r3 (aT 9 ⟨#[]⟩ (.slice (some ⟨u5.heap.size,0,none⟩) 2 2)) QA.out.main (by kernel_rfl) (eQ R3.out rfl) (eR R3.out rfl) (bw _ _ rfl) ?_
    simp only [List.getElem_toArray,List.getElem_cons_succ,List.getElem_cons_zero,Act.put]
    have Q6:=Hd (QA.out.put HL.out)
    refine hK.out _ _ ⟨below_setRow KA.out (by have:=QA.out.hm;omega) _,Q6.out.pln⟩ (fun hHeld1=>?_)
    clear hK K hHeld1 hHeld
    refine wpAnyH_done (by kernel_rfl) ?_ _
    obtain ⟨u6,hu6⟩:∃ u6,u6=(u5.alloc (.cells fl.toArray 34)).setRow m (aT 9 ⟨#[]⟩ (.slice (some ⟨u5.heap.size,0,none⟩) 2 2)).toArray:=⟨_,rfl⟩
    obtain ⟨r6,hr6⟩:∃ r6,r6=(aT 9 ⟨#[]⟩ (.slice (some ⟨u5.heap.size,0,none⟩) 2 2)):=⟨_,rfl⟩
    rw [← hu6,← hr6] at Q6
    rw [← hu6]
    clear hu6 hr6 HL KA QA Q5 M5 K5 HQD KD HLS
    go_wp2_with fail
  all_goals
   have R6:=Hd Q6.out.safe.1
   have hl6:=Hd (show (Tryz.prog.info? 34).map (·.size)=some r6.length by rw [R6.out];kernel_rfl)
   have ho6:=Hd Q6.out.safe.2.1
   have HLS:=Hd Q6.out.low.size
   refine wp_region_held_drew (S:=fun wu=>Below w.heap.size u6 wu∧aq 58 wu w.heap.size ps∧aq 34 wu m r6) (by kernel_rfl) ⟨(b7 u6).mono Q6.out.low.size,Q6.out.pln,Q6.out.main⟩ (fun hHeld=>?_)
   refine' tk 0 (.pointer (some ⟨w.heap.size,54,none⟩)) rfl rfl (.inl ⟨by rfl,fun u hu=>(by go_simp)⟩) hHeld ?_
   simp only [sq1,sq0]
   refine' tk 1 (.slice fa ln fc) rfl rfl (.inl ⟨by rfl,fun u hu=>(by have hc:=hu.2.1.cell HC6.out;go_simp)⟩) hHeld ?_
   simp only [sq1,sq0]
   refine' tk 3 _ rfl rfl (yieldsIf_load_mid (by kernel_rfl) 34 _ rfl m 0 rfl r6 _ (fun u hu=>hu.2.2.range) Tryz.underlying34 rfl hl6.out) hHeld ?_
   simp only [sq1,sq0]
   refine rd1 2 rfl (fun K hK=>?_)
   go_simp
   refine (show Calls Tryz.prog 48 #[.slice fa ln fc] u6.drew (Bd B N l u6.drew) by rw [← HLN.out];exact yk l u6.drew B N fa fc HLL.out hN (Nat.le_trans HB0.out HLS.out) (av.below ((Q6.out.low.mono HB0.out).trans (b7 u6 |>.mono (Nat.le_trans HB0.out HLS.out))) _ HFA.out)).mono ?_
   rintro e u7 ⟨fb,fd,rfl,hs7,hb7⟩
   have K7:=Hd (ae (b7 u6) hb7)
   have Q7:=Hd (Q6.out.then K7.out)
   have FS:=Hd hs7
   refine hK.out _ _ ⟨K7.out.mono HLS.out,Q7.out.pln,Q7.out.main⟩ (fun hHeld1=>?_)
   clear hK K hHeld1 hs7 hb7
   refine rd1 4 rfl (fun K hK=>?_)
   rw [if_pos (by kernel_rfl)]
   refine ff 61 _ rfl (.slice fb l.length fd::r6:List Value).toArray (by rw [List.map_toArray];exact rW fb l.length fd r6 R6.out) ?_
   simp only [List.getElem_toArray,List.getElem_cons_succ,List.getElem_cons_zero,Act.put]
   refine hK.out _ _ ⟨K7.out.mono HLS.out,Q7.out.pln,Q7.out.main⟩ (fun hHeld1=>?_)
   clear hK K hHeld1
   have hlp:=Hd (show (Tryz.prog.info? 61).map (·.size)=some (.slice fb l.length fd::r6:List Value).length by rw [List.length_cons,R6.out];kernel_rfl)
   refine rd1 5 rfl (fun K hK=>?_)
   rw [if_pos (by kernel_rfl)]
   refine bn 61 _ _ rfl (w.heap.size+1) 0 (.slice fb l.length fd::r6:List Value) rfl rfl 61 bZ (.slice fb l.length fd::r6:List Value) Q7.out.prg hlp.out (by rw [List.length_cons,R6.out];simp [bZ,ai]) (by rw [List.length_cons,R6.out];decide) (by intro v hv;rcases List.mem_cons.1 hv with rfl | hv;rfl;exact ho6.out v hv) ?_
   simp only [List.getElem_toArray,List.getElem_cons_succ,List.getElem_cons_zero,Act.put]
   have B8:=Hd (below_setRow Q7.out.low (show w.heap.size≤w.heap.size+1 by omega) (.slice fb l.length fd::r6:List Value).toArray)
   refine hK.out _ _ ⟨below_setRow (K7.out.mono HLS.out) (by omega) _,Q7.out.pln.setRowOther (by omega) _,Q7.out.main.setRowOther (by have:=Q7.out.hm;omega) _⟩ (fun hHeld1=>?_)
   clear hK K hHeld1
   refine wpAnyH_done (by kernel_rfl) ?_ _
   go_wp2_with fail
   refine bodyPost_ret (results_cell_row rfl _ _ (w.heap.size+1) 61 (.slice fb l.length fd::r6:List Value).toArray (0,0) _ rfl (Q7.out.prg.setRow _) Tryz.underlying61 rfl (by rw [List.size_toArray];exact hlp.out)) rfl ?_
   refine ⟨fb,fd,r6,rfl,R6.out,ho6.out,fun cw hcw hbw=>⟨?_,?_⟩,B8.out⟩
   ·exact FS.out cw ⟨Nat.le_trans (by rw [setRow_size];exact Nat.le_refl _) hcw.1,fun q h1 h2 _=>(hcw.2 q (Nat.le_trans HLS.out h1) (by rw [setRow_size];exact h2) (by simp)).trans (setRow_other u7 (w.heap.size+1) q _ (Nat.ne_of_gt (Nat.lt_of_lt_of_le Q6.out.prg.lt h1)))⟩ (cm ((Q6.out.low.mono HB0.out).trans (b7 u6 |>.mono (Nat.le_trans HB0.out HLS.out))) hbw (Nat.le_trans K7.out.size (Nat.le_trans (by rw [setRow_size];exact Nat.le_refl _) hcw.1)))
   ·exact Q7.out.safe.2.2 cw ⟨Nat.le_trans (by rw [setRow_size];exact Nat.le_refl _) hcw.1,fun q h1 h2 _=>(hcw.2 q (by omega) (by rw [setRow_size];exact h2) (by simp)).trans (setRow_other u7 (w.heap.size+1) q _ (by omega))⟩ hbw
end Go.Proofs.YtiefeajappjnbaaGreatDoor
