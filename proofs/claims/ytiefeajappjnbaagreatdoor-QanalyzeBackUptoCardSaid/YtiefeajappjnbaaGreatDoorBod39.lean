/- The program's walker: module.walker.body. -/
import Derived.Test.YtiefeajappjnbaaGreatDoorGA
import Derived.Test.YtiefeajappjnbaaGreatDoorGX
namespace Go.Proofs.YtiefeajappjnbaaGreatDoor
open Go.RowKit
def Ek (z:Int) (w:World) (e:Ending) (w':World):Prop:=∃ rs:List Value,e=.returned (.tuple #[.agg rs.toArray,.int .i64 z])∧rs.length=19∧rs.toArray.all (·.oneCell')=true∧Below w.heap.size w w'
def VsX (ab pb:Nat) (l:List al) (BE NE:Nat) (x:ag) (V:ScD→Int) (K:Nat):Prop:=∀ (w:World) (lo B B1 N C:Nat) (xs:List Value) (d:ScD) (cs:List Value),
 N≤1048576→C+K≤134217728→B≤w.heap.size→B1≤w.heap.size→lo≤w.heap.size→qR ab pb l BE NE w→dY d→ScD.At w lo B C d cs→ag.At w B1 N x xs →
 Calls Tryz.prog 95 #[.agg (cb ab pb).toArray,.agg xs.toArray,.agg cs.toArray] w (DA (V d) w)
theorem kP (d:Nat):∀ (cs:List Value) (n:Nat) (Z:Array Value),List.foldl (fun (a:Array Value) (x:Value×Nat)=>a.setIfInBounds (d+x.2) x.1) Z (cs.zipIdx n)=List.foldl (fun (a:Array Value) (x:Value×Nat)=>a.setIfInBounds x.2 x.1) Z (cs.zipIdx (d+n))
 | [],_,_=>rfl
 | c::cs,n,Z=>by
   rw [List.zipIdx_cons,List.zipIdx_cons,List.foldl_cons,List.foldl_cons,kP d cs (n+1)]
   rfl
theorem tm (nm:ByteArray) (a:Option Addr) (n c:Nat) (cs:List Value) (h:cs.length=17):List.foldl (fun (a:Array Value) (x:Value×Nat)=>a.setIfInBounds (2+x.2) x.1) #[.string nm,.slice a n c,.int .i64 0,.string ⟨#[]⟩,.int .i64 0,.bool false,.bool false,.string ⟨#[]⟩,.int .i64 0,.int .i64 0,.int .i64 0,.int .i64 0,.int .i64 0,.string ⟨#[]⟩,.slice none 0 0,.slice none 0 0,.slice none 0 0,.slice none 0 0,.slice none 0 0] cs.zipIdx=(.string nm::.slice a n c::cs).toArray:=by
 rw [kP 2,fx cs 2 _ (by rw [h];rfl)]
 rfl
theorem CY:gl.toArray.all (·.oneCell')=true:=by kernel_rfl
theorem vX:(Tryz.prog.info? 72).map (·.size)=some gl.toArray.size:=by kernel_rfl
set_option maxRecDepth 100000 in
set_option maxHeartbeats 6400000 in
theorem A7 (ab pb:Nat) (l:List al) (BE NE:Nat) (V:ScD→Int) (K:Nat) (y:al) (hbd:VsX ab pb l BE NE y.body V K) (w:World) (lo B B1 N C:Nat) (fs:List Value) (d:ScD) (cs1:List Value)
 (hN:N≤1048576) (hC:C+N+K≤134217728) (hB:B≤w.heap.size) (hB1:B1≤w.heap.size) (hlo:lo≤w.heap.size) (hE:qR ab pb l BE NE w) (hg2:dY (d.par y.params)) (hd:ScD.At w lo B C d cs1) (hy:al.At w B1 N y fs) :
 Calls Tryz.prog 94 #[.agg (cb ab pb).toArray,.agg fs.toArray,.agg cs1.toArray] w (Ek (V (d.par y.params)) w):=by
 have IH:=Hd hbd
 have HD:=Hd hd
 have HG2:=Hd hg2
 have hsz:=Hd (show (Tryz.prog.info? 147).map (·.size)=some cs1.length by rw [hd.len];kernel_rfl)
 have hsf:=Hd (show (Tryz.prog.info? 72).map (·.size)=some fs.length by rw [hy.len];exact cj)
 have hsw:=Hd (show (Tryz.prog.info? 140).map (·.size)=some (cb ab pb).length by kernel_rfl)
 obtain ⟨pa,pc,es,hh⟩:=hy.has
 have c0:=hh.name
 have c1:=hh.params
 have hpl:y.params.length≤N:=hh.hp
 have HES:=Hd (show (fs.drop 2).take 17=es by rw [hh.body,List.take_of_length_le (by rw [hh.atBody.len];exact Nat.le_refl _)])
 have hse:=Hd (show (Tryz.prog.info? 34).map (·.size)=some es.length by rw [hh.atBody.len];exact ay)
 have HP:=Hd hh.atPar
 have HE:=Hd hh.atBody
 have I0:=Hd (dK.start (cb ab pb) 140 147 72 72 w fs cs1 gl)
 have HEV0:=Hd hE
 obtain ⟨ev,hev⟩:∃ ev,V (d.par y.params)=ev:=⟨_,rfl⟩
 have HEV:=Hd hev
 rw [hev]
 clear hh hy hbd hd hE hg2 hev
 go_enter Tryz.func94,Tryz.ntmps94
 go_wp2_with fail
 obtain ⟨w1,hw1⟩:∃ w1,w1=((((w.alloc (.cells (cb ab pb).toArray 140)).alloc (.cells fs.toArray 72)).alloc (.cells cs1.toArray 147)).alloc (.cells #[.string ⟨#[]⟩,.slice none 0 0,.int .i64 0,.string ⟨#[]⟩,.int .i64 0,.bool false,.bool false,.string ⟨#[]⟩,.int .i64 0,.int .i64 0,.int .i64 0,.int .i64 0,.int .i64 0,.string ⟨#[]⟩,.slice none 0 0,.slice none 0 0,.slice none 0 0,.slice none 0 0,.slice none 0 0] 72)):=⟨_,rfl⟩
 have I1:=Hd (show dK (cb ab pb) 147 w w1 fs cs1 gl 72 by rw [hw1];exact I0.out)
 rw [← hw1]
 clear hw1 I0
 have HRW:=Hd (show ∀ u,Below w1.heap.size w1 u→aj u w.heap.size 0 (cb ab pb) from fun u hu=>(I1.out.below hu).r1)
 have HRX:=Hd (show ∀ u,Below w1.heap.size w1 u→aj u (w.heap.size+1) 0 fs from fun u hu=>(I1.out.below hu).r2)
 have HRS:=Hd (show ∀ u,Below w1.heap.size w1 u→dK (cb ab pb) 147 w u fs cs1 gl 72 from fun u hu=>I1.out.below hu)
 have HLW:=Hd I1.out.low.size
 have HB1:=Hd (Nat.le_trans hB1 HLW.out)
 have HLO:=Hd (Nat.le_trans hlo HLW.out)
 have HKD:=Hd (show ∀ u,Below w1.heap.size w1 u→ScD.At u lo u.heap.size C d cs1 from fun u hu=>(HD.out.keep (a7.of_below ((I1.out.low.trans (hu.mono HLW.out)).mono hB))).mono (Nat.le_trans hB (Nat.le_trans HLW.out hu.size)) (Nat.le_refl _))
 have HKE:=Hd (show ∀ u,Below w1.heap.size w1 u→ag.At u B1 N y.body es from fun u hu=>ag.At.below ((I1.out.low.trans (hu.mono HLW.out)).mono hB1) _ HE.out)
 have HKP:=Hd (show ∀ u,Below w1.heap.size w1 u→aF u B1 N y.params pa from fun u hu=>aF.below ((I1.out.low.trans (hu.mono HLW.out)).mono hB1) _ HP.out)
 have HEN:=Hd (HEV0.out.then I1.out.low)
 have HB0:=Hd (cG w1)
 refine wp_region_held_drew (S:=fun u=>Below w1.heap.size w1 u) (by kernel_rfl) HB0.out (fun hHeld=>?_)
 refine' tk 0 _ rfl rfl (yieldsIf_load_mid (by kernel_rfl) 140 _ rfl (w.heap.size) (0) rfl (cb ab pb) _ (fun u hu=>(HRW.out _ hu).range) Tryz.underlying140 rfl hsw.out) hHeld ?_
 simp only [sq1,sq0]
 refine' tk 1 (.pointer (some ⟨w.heap.size+1,2,none⟩)) rfl rfl (.inl ⟨by rfl,fun u hu=>(by go_simp)⟩) hHeld ?_
 simp only [sq1,sq0]
 refine' tk 2 _ rfl rfl (yieldsIf_load_mid (by kernel_rfl) 34 _ rfl (w.heap.size+1) (2) rfl es _ (fun u hu=>(HRX.out _ hu).part HES.out) Tryz.underlying34 rfl hse.out) hHeld ?_
 simp only [sq1,sq0]
 refine' tk 3 _ rfl rfl (yieldsIf_load_mid (by kernel_rfl) 147 _ rfl (w.heap.size+2) (0) rfl cs1 _ (fun u hu=>(HRS.out _ hu).range) Tryz.underlying147 rfl hsz.out) hHeld ?_
 simp only [sq1,sq0]
 refine' tk 4 (.pointer (some ⟨w.heap.size+1,1,none⟩)) rfl rfl (.inl ⟨by rfl,fun u hu=>(by go_simp)⟩) hHeld ?_
 simp only [sq1,sq0]
 refine' tk 5 (.slice pa y.params.length pc) rfl rfl (.inl ⟨by rfl,fun u hu=>(by have hc:=(HRX.out _ hu).get0 c1;go_simp)⟩) hHeld ?_
 simp only [sq1,sq0]
 refine wpAnyH_ready (rs:=[6,11]) (by kernel_rfl) (by simp) ?_
 refine AllReadyH.cons rfl (fun K hK=>?_) (AllReadyH.cons rfl (fun K hK=>?_) AllReadyH.nil)
 case' refine_1 =>
  go_simp
  refine (pF y.params pa pc d cs1 _ lo _ C N (by omega) (by omega) hpl (Nat.le_refl _) (Nat.le_trans HLO.out HB0.out.size) (HKD.out _ HB0.out) (aF.mono (Nat.le_trans HB1.out HB0.out.size) _ (HKP.out _ HB0.out))).mono ?_
  rintro e uC0 ⟨_,cs2,rfl,rfl,hs2,hbC⟩
  have S2:=Hd hs2
  have HbC0:=Hd hbC
  have HC0:=Hd (ae HB0.out hbC)
  refine hK.out _ _ HC0.out (fun hHeld=>?_)
  clear hK K hbC hs2
  refine wpAnyH_ready (rs:=[7,11]) (by kernel_rfl) (by simp) ?_
  refine AllReadyH.cons rfl (fun K hK=>?_) (AllReadyH.cons rfl (fun K hK=>?_) AllReadyH.nil)
 case' refine_1.refine_1 =>
  go_simp
  refine (IH.out _ lo _ B1 N _ es _ cs2 hN (by omega) (Nat.le_refl _) (Nat.le_trans HB1.out HC0.out.size) (Nat.le_trans HLO.out HC0.out.size) (HEN.out.then HC0.out) HG2.out S2.out (HKE.out _ HC0.out)).mono ?_
  rw [HEV.out]
  rintro e uC1 ⟨rs5,rfl,hl5,ho5,hbC⟩
  have HO5:=Hd ho5
  have HbC1:=Hd hbC
  have HC1:=Hd (ae HC0.out hbC)
  refine hK.out _ _ HC1.out (fun hHeld=>?_)
  clear hK K hbC ho5
  refine' tk 8 (.tuple #[.agg rs5.toArray,.int .i64 ev]) rfl rfl (.inl ⟨by rfl,fun u hu=>(by go_simp)⟩) hHeld ?_
  simp only [sq1,sq0]
  refine' tk 9 (.agg rs5.toArray) rfl rfl (.inl ⟨by rfl,fun u hu=>(by go_simp)⟩) hHeld ?_
  simp only [sq1,sq0]
  refine' tk 10 (.int .i64 ev) rfl rfl (.inl ⟨by rfl,fun u hu=>(by go_simp)⟩) hHeld ?_
  simp only [sq1,sq0]
  refine rd1 11 rfl (fun K hK=>?_)
  go_simp
  obtain ⟨uA,huA⟩:∃ uA,uA=uC1.alloc (.cells zE0 34):=⟨_,rfl⟩
  rw [← huA]
  have HbA:=Hd (show Below uC1.heap.size uC1 uA by rw [huA];exact af uC1 _)
  have ZA:=Hd (show uA.heap[uC1.heap.size]?=some (.cells zE0 34 (0,0)) by rw [huA];exact heap_alloc_new uC1 _)
  have HA:=Hd (ae HC1.out HbA.out)
  obtain ⟨q5,hq5⟩:∃ q5,q5=uC1.heap.size:=⟨_,rfl⟩
  have hqb:w1.heap.size≤q5:=by rw [hq5];exact HC1.out.size
  rw [← hq5] at ZA ⊢
  refine hK.out _ _ HA.out (fun hHeld=>?_)
  clear hK K huA hq5
  refine rd1 12 rfl (fun K hK=>?_)
  rw [if_pos (by kernel_rfl)]
  refine wp_store_row 34 _ _ rfl q5 rs5.toArray rfl rfl 34 _ ZA.out (by rw [List.size_toArray,hl5];exact ay) (show 17=rs5.toArray.size by rw [List.size_toArray,hl5]) HO5.out ?_
  simp only [List.getElem_toArray,List.getElem_cons_succ,List.getElem_cons_zero,Act.put]
  have R5:=Hd (show Below w1.heap.size w1 (World.setRow uA q5 rs5.toArray) from HA.out.trans (aM _ _ hqb))
  have Z5:=Hd (setRow_heap _ q5 _ rs5.toArray _ _ ZA.out)
  obtain ⟨u5,hu5⟩:∃ u5,u5=World.setRow uA q5 rs5.toArray:=⟨_,rfl⟩
  rw [← hu5] at R5 Z5 ⊢
  refine hK.out _ _ R5.out (fun hHeld=>?_)
  clear hK K hu5
  refine rd1 13 rfl (fun K hK=>?_)
  go_simp
  refine hK.out _ _ R5.out (fun hHeldx=>?_)
  clear hK K hHeldx
  refine wpAnyH_done (by kernel_rfl) ?_ _
 case' refine_1.refine_2 =>
  go_simp
  obtain ⟨uA,huA⟩:∃ uA,uA=uC0.alloc (.cells zE0 34):=⟨_,rfl⟩
  rw [← huA]
  have HbA:=Hd (show Below uC0.heap.size uC0 uA by rw [huA];exact af uC0 _)
  have ZA:=Hd (show uA.heap[uC0.heap.size]?=some (.cells zE0 34 (0,0)) by rw [huA];exact heap_alloc_new uC0 _)
  have HA:=Hd (ae HC0.out HbA.out)
  obtain ⟨q5,hq5⟩:∃ q5,q5=uC0.heap.size:=⟨_,rfl⟩
  have hqb:w1.heap.size≤q5:=by rw [hq5];exact HC0.out.size
  rw [← hq5] at ZA ⊢
  have SA:=Hd ((S2.out.keep (a7.of_below HbA.out)).mono HbA.out.size (Nat.le_refl _))
  refine hK.out _ _ HA.out (fun hHeld=>?_)
  clear hK K huA hq5
  refine rd1 7 rfl (fun K hK=>?_)
  go_simp
  refine (IH.out _ lo _ B1 N _ es _ cs2 hN (by omega) (Nat.le_refl _) (Nat.le_trans HB1.out HA.out.size) (Nat.le_trans HLO.out HA.out.size) (HEN.out.then HA.out) HG2.out SA.out (HKE.out _ HA.out)).mono ?_
  rw [HEV.out]
  rintro e uC1 ⟨rs5,rfl,hl5,ho5,hbC⟩
  have HO5:=Hd ho5
  have HbC1:=Hd hbC
  have HC1:=Hd (ae HA.out hbC)
  have ZC1:=Hd ((HbC1.out.block _ (Array.getElem?_eq_some_iff.1 ZA.out).1).trans ZA.out)
  refine hK.out _ _ HC1.out (fun hHeld=>?_)
  clear hK K hbC ho5
  refine' tk 8 (.tuple #[.agg rs5.toArray,.int .i64 ev]) rfl rfl (.inl ⟨by rfl,fun u hu=>(by go_simp)⟩) hHeld ?_
  simp only [sq1,sq0]
  refine' tk 9 (.agg rs5.toArray) rfl rfl (.inl ⟨by rfl,fun u hu=>(by go_simp)⟩) hHeld ?_
  simp only [sq1,sq0]
  refine' tk 10 (.int .i64 ev) rfl rfl (.inl ⟨by rfl,fun u hu=>(by go_simp)⟩) hHeld ?_
  simp only [sq1,sq0]
  refine rd1 12 rfl (fun K hK=>?_)
  rw [if_pos (by kernel_rfl)]
  refine wp_store_row 34 _ _ rfl q5 rs5.toArray rfl rfl 34 _ ZC1.out (by rw [List.size_toArray,hl5];exact ay) (show 17=rs5.toArray.size by rw [List.size_toArray,hl5]) HO5.out ?_
  simp only [List.getElem_toArray,List.getElem_cons_succ,List.getElem_cons_zero,Act.put]
  have R5:=Hd (show Below w1.heap.size w1 (World.setRow uC1 q5 rs5.toArray) from HC1.out.trans (aM _ _ hqb))
  have Z5:=Hd (setRow_heap _ q5 _ rs5.toArray _ _ ZC1.out)
  obtain ⟨u5,hu5⟩:∃ u5,u5=World.setRow uC1 q5 rs5.toArray:=⟨_,rfl⟩
  rw [← hu5] at R5 Z5 ⊢
  refine hK.out _ _ R5.out (fun hHeld=>?_)
  clear hK K hu5
  refine rd1 13 rfl (fun K hK=>?_)
  go_simp
  refine hK.out _ _ R5.out (fun hHeldx=>?_)
  clear hK K hHeldx
  refine wpAnyH_done (by kernel_rfl) ?_ _
 case' refine_2 =>
  go_simp
  obtain ⟨uA,huA⟩:∃ uA,uA=(w1.alloc (.cells zE0 34)).drew:=⟨_,rfl⟩
  rw [← huA]
  have HbA:=Hd (show Below w1.drew.heap.size w1.drew uA by rw [huA];exact af w1.drew _)
  have ZA:=Hd (show uA.heap[w1.heap.size]?=some (.cells zE0 34 (0,0)) by rw [huA];exact heap_alloc_new w1 _)
  have HA:=Hd (ae HB0.out HbA.out)
  obtain ⟨q5,hq5⟩:∃ q5,q5=w1.heap.size:=⟨_,rfl⟩
  have hqb:w1.heap.size≤q5:=by rw [hq5];exact Nat.le_refl _
  rw [← hq5] at ZA ⊢
  refine hK.out _ _ HA.out (fun hHeld=>?_)
  clear hK K huA hq5
  refine rd1 6 rfl (fun K hK=>?_)
  go_simp
  refine (pF y.params pa pc d cs1 _ lo _ C N (by omega) (by omega) hpl (Nat.le_refl _) (Nat.le_trans HLO.out HA.out.size) (HKD.out _ HA.out) (aF.mono (Nat.le_trans HB1.out HA.out.size) _ (HKP.out _ HA.out))).mono ?_
  rintro e uC0 ⟨_,cs2,rfl,rfl,hs2,hbC⟩
  have S2:=Hd hs2
  have HbC0:=Hd hbC
  have HC0:=Hd (ae HA.out hbC)
  have ZC0:=Hd ((HbC0.out.block _ (Array.getElem?_eq_some_iff.1 ZA.out).1).trans ZA.out)
  refine hK.out _ _ HC0.out (fun hHeld=>?_)
  clear hK K hbC hs2
  refine rd1 7 rfl (fun K hK=>?_)
  go_simp
  refine (IH.out _ lo _ B1 N _ es _ cs2 hN (by omega) (Nat.le_refl _) (Nat.le_trans HB1.out HC0.out.size) (Nat.le_trans HLO.out HC0.out.size) (HEN.out.then HC0.out) HG2.out S2.out (HKE.out _ HC0.out)).mono ?_
  rw [HEV.out]
  rintro e uC1 ⟨rs5,rfl,hl5,ho5,hbC⟩
  have HO5:=Hd ho5
  have HbC1:=Hd hbC
  have HC1:=Hd (ae HC0.out hbC)
  have ZC1:=Hd ((HbC1.out.block _ (Array.getElem?_eq_some_iff.1 ZC0.out).1).trans ZC0.out)
  refine hK.out _ _ HC1.out (fun hHeld=>?_)
  clear hK K hbC ho5
  refine' tk 8 (.tuple #[.agg rs5.toArray,.int .i64 ev]) rfl rfl (.inl ⟨by rfl,fun u hu=>(by go_simp)⟩) hHeld ?_
  simp only [sq1,sq0]
  refine' tk 9 (.agg rs5.toArray) rfl rfl (.inl ⟨by rfl,fun u hu=>(by go_simp)⟩) hHeld ?_
  simp only [sq1,sq0]
  refine' tk 10 (.int .i64 ev) rfl rfl (.inl ⟨by rfl,fun u hu=>(by go_simp)⟩) hHeld ?_
  simp only [sq1,sq0]
  refine rd1 12 rfl (fun K hK=>?_)
  rw [if_pos (by kernel_rfl)]
  refine wp_store_row 34 _ _ rfl q5 rs5.toArray rfl rfl 34 _ ZC1.out (by rw [List.size_toArray,hl5];exact ay) (show 17=rs5.toArray.size by rw [List.size_toArray,hl5]) HO5.out ?_
  simp only [List.getElem_toArray,List.getElem_cons_succ,List.getElem_cons_zero,Act.put]
  have R5:=Hd (show Below w1.heap.size w1 (World.setRow uC1 q5 rs5.toArray) from HC1.out.trans (aM _ _ hqb))
  have Z5:=Hd (setRow_heap _ q5 _ rs5.toArray _ _ ZC1.out)
  obtain ⟨u5,hu5⟩:∃ u5,u5=World.setRow uC1 q5 rs5.toArray:=⟨_,rfl⟩
  rw [← hu5] at R5 Z5 ⊢
  refine hK.out _ _ R5.out (fun hHeld=>?_)
  clear hK K hu5
  refine rd1 13 rfl (fun K hK=>?_)
  go_simp
  refine hK.out _ _ R5.out (fun hHeldx=>?_)
  clear hK K hHeldx
  refine wpAnyH_done (by kernel_rfl) ?_ _
 all_goals
  have I5:=Hd (I1.out.below R5.out)
  by_cases hev0:ev=0
  case neg =>
   have hev1:(ev != 0)=true:=by simpa using hev0
   have hev2:(ev==0)=false:=by simpa using hev0
   clear hHeld hev0
   go_wp2_with (refine wpList_store_row rfl 72 _ _ rfl (w.heap.size+1+1+1) gl.toArray rfl rfl 72 _ I5.out.out vX rfl CY ?_)
   have Z7:=setRow_heap u5 (w.heap.size+3) _ gl.toArray _ _ I5.out.out
   refine bodyPost_ret (ap rfl _ _ (w.heap.size+1+1+1) 72 _ (0,0) _ rfl Z7 Tryz.underlying72 rfl vX) rfl ?_
   exact ⟨gl,rfl,rfl,CY,I5.out.low.trans (aM _ _ (by omega))⟩
  case pos =>
   subst hev0
   go_wp2_with fail
   have HL5:=Hd hl5
   have HPP:=Hd (Nat.le_trans hpl hN)
   have HB5:=Hd (show B1≤u5.drew.heap.size from Nat.le_trans HB1.out R5.out.size)
   have hz5:=Hd (show (Tryz.prog.info? 34).map (·.size)=some rs5.length by rw [hl5];exact ay)
   have hlq:=Hd (Array.getElem?_eq_some_iff.1 Z5.out).1
   clear hHeld
   refine wp_region_held_drew (S:=fun u=>aj u (w.heap.size+1) 0 fs∧u.heap[q5]?=some (.cells rs5.toArray 34 (0,0))) (by kernel_rfl) ⟨I5.out.r2,Z5.out⟩ (fun hHeld=>?_)
   refine' tk 0 (.pointer (some ⟨w.heap.size+1,0,none⟩)) rfl rfl (.inl ⟨by rfl,fun u hu=>(by go_simp)⟩) hHeld ?_
   simp only [sq1,sq0]
   refine' tk 1 (.string y.name) rfl rfl (.inl ⟨by rfl,fun u hu=>(by have hc:=hu.1.get0 c0;go_simp)⟩) hHeld ?_
   simp only [sq1,sq0]
   refine' tk 2 (.pointer (some ⟨w.heap.size+1,1,none⟩)) rfl rfl (.inl ⟨by rfl,fun u hu=>(by go_simp)⟩) hHeld ?_
   simp only [sq1,sq0]
   refine' tk 3 (.slice pa y.params.length pc) rfl rfl (.inl ⟨by rfl,fun u hu=>(by have hc:=hu.1.get0 c1;go_simp)⟩) hHeld ?_
   simp only [sq1,sq0]
   refine' tk 5 _ rfl rfl (yieldsIf_load_mid (by kernel_rfl) 34 _ rfl (q5) (0) rfl rs5 _ (fun u hu=>cf hu.2) Tryz.underlying34 rfl hz5.out) hHeld ?_
   simp only [sq1,sq0]
   refine rd1 4 rfl (fun K hK=>?_)
   go_simp
   refine (vm y.params pa pc _ B1 N (by have:=HPP.out;omega) HB5.out (HKP.out _ (R5.out.trans ((cG u5).mono R5.out.size)))).mono ?_
   rintro e u6 ⟨a6,n6,c6,rfl,hb6⟩
   have R6:=Hd (ae (R5.out.trans ((cG u5).mono R5.out.size)) hb6)
   have I6:=Hd (I1.out.below R6.out)
   have Z6:=Hd ((hb6.block _ hlq.out).trans Z5.out)
   refine hK.out _ _ ⟨I6.out.r2,Z6.out⟩ (fun hHeld1=>?_)
   clear hK K hHeld hb6
   have hfz:=tm y.name a6 n6 c6 rs5 HL5.out
   refine' tk 6 (.agg (Value.string y.name::.slice a6 n6 c6::rs5).toArray) rfl rfl (.inl ⟨by rfl,fun u hu=>(by go_simp)⟩) hHeld1 ?_
   simp only [sq1,sq0]
   refine rd1 7 rfl (fun K hK=>?_)
   rw [if_pos (by kernel_rfl)]
   have hsz9:(Tryz.prog.info? 72).map (·.size)=some (Value.string y.name::.slice a6 n6 c6::rs5).toArray.size:=by rw [List.size_toArray,List.length_cons,List.length_cons,HL5.out];exact cj
   have hon9:(Value.string y.name::.slice a6 n6 c6::rs5).toArray.all (·.oneCell')=true:=by
    refine Go.all_oneCell_toArray (fun u hu=>?_)
    rcases List.mem_cons.1 hu with rfl | hu
    ·rfl
    ·rcases List.mem_cons.1 hu with rfl | hu
     ·rfl
     ·exact (List.all_eq_true.1 (by simpa using HO5.out)) u hu
   refine wp_store_row 72 _ _ rfl (w.heap.size+1+1+1) (Value.string y.name::.slice a6 n6 c6::rs5).toArray rfl rfl 72 _ I6.out.out hsz9 (show 19=(Value.string y.name::.slice a6 n6 c6::rs5).toArray.size by rw [List.size_toArray,List.length_cons,List.length_cons,HL5.out]) hon9 ?_
   simp only [List.getElem_toArray,List.getElem_cons_succ,List.getElem_cons_zero,Act.put]
   have Z7:=Hd (setRow_heap u6 (w.heap.size+3) _ (Value.string y.name::.slice a6 n6 c6::rs5).toArray _ _ I6.out.out)
   have R7:=Hd (show aj (u6.setRow (w.heap.size+3) (Value.string y.name::.slice a6 n6 c6::rs5).toArray) (w.heap.size+1) 0 fs∧(u6.setRow (w.heap.size+3) (Value.string y.name::.slice a6 n6 c6::rs5).toArray).heap[q5]?=some (.cells rs5.toArray 34 (0,0)) from
    ⟨I6.out.r2.below (aM (B:=w.heap.size+2) u6 _ (by omega)) (by omega),(setRow_other _ _ _ _ (by have:=I1.out.size;omega)).trans Z6.out⟩)
   have HF7:=Hd (show Below w.heap.size w (u6.setRow (w.heap.size+3) (Value.string y.name::.slice a6 n6 c6::rs5).toArray) from I6.out.low.trans (aM _ _ (by omega)))
   refine hK.out _ _ R7.out (fun hHeldx=>?_)
   clear hK K hHeldx hHeld1 hfz
   refine rd1 8 rfl (fun K hK=>?_)
   go_simp
   refine hK.out _ _ R7.out (fun hHeldx=>?_)
   clear hK K hHeldx
   refine wpAnyH_done (by kernel_rfl) ?_ _
   go_wp2_with fail
   refine bodyPost_ret (ap rfl _ _ (w.heap.size+1+1+1) 72 _ (0,0) _ rfl Z7.out Tryz.underlying72 rfl hsz9) rfl ?_
   exact ⟨_,rfl,by rw [List.length_cons,List.length_cons,HL5.out],hon9,HF7.out⟩
end Go.Proofs.YtiefeajappjnbaaGreatDoor
