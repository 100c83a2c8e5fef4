/- datakitref43.Plan of a program gives the check's error,or the plan that planS says,or ErrStream (printed by genrpl43.py). -/
import Derived.Test.YticpebgjbfanpaaGreatDoorGA
import Derived.Test.YticpebgjbfanpaaGreatDoorGZ
import Derived.Test.YticpebgjbfanpaaGreatDoorHH
import Derived.Test.YticpebgjbfanpaaGreatDoorSel43r
namespace Go.Proofs.YticpebgjbfanpaaGreatDoor
open Go.RowKit
theorem join2 {A B:Type} {F G:A→B→Prop} {R:Prop} (main:(∀ a b,F a b→G a b)→R) (tail:∀ a b,F a b→G a b):R:=main tail
theorem wfE_up:∀ (m:Nat) (e:ExprD),wfE m e→wfE (m+1) e:=by
 intro m
 induction m with
 | zero=>intro e h;exact ⟨h.1,by rw [h.2.1];simp,by rw [h.2.2];simp⟩
 | succ m ih=>intro e h;exact ⟨h.1,fun a ha=>(h.2.1 a ha).imp id (ih a),fun f hf=>(h.2.2 f hf).imp id (ih f.body)⟩
theorem wfE_le {m n:Nat} (h:m≤n) {e:ExprD} (hw:wfE m e):wfE n e:=by
 induction h with
 | refl=>exact hw
 | step _ ih=>exact wfE_up _ e ih
theorem wf_kid47 {e:ExprD} (h:wfE 47 e) {k:Nat} (hk:k<e.args.length):e.args[k].op=30∨wfE 47 e.args[k]:=by
 rcases wf_kid h hk with h1 | ⟨m,hm,h1⟩
 ·exact .inl h1
 ·exact .inr (wfE_le (by omega) h1)
theorem stp_47 {e:ExprD} (h:e.op=30∨wfE 47 e):StpX 48 (selS 47) e:=h.elim (fun h=>stp_30 47 48 h) (fun h=>stp_all 47 e (by omega) h)
theorem conr_47 {e:ExprD} (h:e.op=30∨wfE 47 e):ConR (conS 47) e:=h.elim (fun h=>conr_30 47 h) (fun h=>conr_all 47 e h)
theorem sel_none {o:Option (List SelD)} {f:List SelD→PlnD} (h:okSel o=none):(okSel o).map f=none:=by rw [h];rfl
theorem plnB_one (w:World) (l:List FuncD) (fa:Option Addr) (fc:Nat):∀ u∈plnRow 1 (.slice none 0 0) ⟨#[]⟩ zeroEL zeroEL (zeroEL.set 0 (.int .i64 1)) (.slice fa l.length fc),u.oneCell'=true:=plnRow_one rfl (zeroE_at w 0 0).one (zeroE_at w 0 0).one (identE_at w 0 0).one rfl
theorem sizePRG:(Tryz.prog.info? 36).map (·.size)=some 18:=by kernel_rfl
set_option maxRecDepth 100000 in
set_option maxHeartbeats 6400000 in
theorem rpl_bad (l:List FuncD) (x:ExprD) (fa:Option Addr) (fc:Nat) (ms cs:List Value) (w:World) (B N:Nat) (hN:N≤1048576) (hB:B≤w.heap.size) (hT:TabAt w) (_hln:l.length≤N) (hA:FuncsAt w B N l fa) (hx:ExprD.At w B N x ms) (hcs:cs=.slice fa l.length fc::ms) (h0:prgE l x≠0):Calls Tryz.prog 7 #[.agg cs.toArray] w (PlanR N l x w):=by
 have hml:ms.length=17:=hx.len
 have HMS:=Hd (show (cs.drop 1).take 17=ms by rw [hcs];exact List.take_of_length_le (show ms.length≤17 by omega))
 have hlm:=Hd (show (Tryz.prog.info? 34).map (·.size)=some ms.length by rw [hml];exact sizeE)
 have hlm2:=Hd (show (Tryz.prog.info? 34).map (·.size)=some ms.toArray.size by rw [List.size_toArray,hml];exact sizeE)
 have hlm3:=Hd (show zeroEA.size=ms.toArray.size by show 17=_;rw [List.size_toArray,hml])
 have HOM:=Hd (show ms.toArray.all (·.oneCell')=true from Go.all_oneCell_toArray hx.one)
 have HML:=Hd hml
 have hlc:=Hd (show (Tryz.prog.info? 36).map (·.size)=some cs.length by rw [hcs,List.length_cons,hml];exact sizePRG)
 have c0:cs[0]?=some (.slice fa l.length fc):=by rw [hcs];rfl
 have HC0:=Hd c0
 have HCS:=Hd hcs
 have HX:=Hd hx
 have HA:=Hd hA
 have HT:=Hd hT
 have RG0:=(RowT.new w 36 cs).alloc (.cells zP0 40)
 have RZ0:=RowT.new (w.alloc (.cells cs.toArray 36)) 40 zeroPL
 rw [World.size_alloc] at RZ0
 obtain ⟨w1,hw1⟩:∃ w1,w1=(w.alloc (.cells cs.toArray 36)).alloc (.cells zP0 40):=⟨_,rfl⟩
 rw [← hw1] at RG0
 have RG:=Hd RG0
 have RZ:=Hd (show RowT 40 w1 (w.heap.size+1) zeroPL by rw [hw1];exact RZ0)
 have H1:=Hd (show Below w.heap.size w w1 by rw [hw1];exact belowThen (belowBox w _) (belowBox _ _))
 have HW:=Hd hw1
 clear hcs hx hA hT hml c0 RG0 RZ0 hw1
 go_enter Tryz.func7,Tryz.ntmps7
 go_wp2_with ((with_reducible show wpList _ _ _ (⟨some 9,_,_,_,_,_⟩::_) _ _);refine wpList_load_mid rfl 36 _ rfl w.heap.size 0 rfl cs _ (by rw [← HW.out];exact RG.out.range) Tryz.underlying36 rfl hlc.out ?_)
 rw [← HW.out]
 refine (chk_r l x fa fc ms cs w1 B N hN (Nat.le_trans hB H1.out.size) (HT.out.below H1.out) (FuncsAt.below (H1.out.mono hB) _ HA.out) (HX.out.below (H1.out.mono hB)) HCS.out).mono ?_
 rintro e w2 ⟨rfl,hb2⟩
 have H2:=Hd (belowThen H1.out hb2)
 have RG2:=Hd (RG.out.then hb2)
 have RZ2:=Hd (RZ.out.then hb2)
 clear hb2 HW RG RZ H1
 have HF:=Hd (fun (w':World) (hb:Below w.heap.size w w')=>PlanR.bad (N:=N) h0 hb)
 generalize prgE l x=p at *
 have n0:(p != 0)=true:=by simpa using h0
 go_wp2_with ((with_reducible show wpList _ _ _ (⟨none,.store 40 (.tmp 2) (.tmp 13),_,_,_,_⟩::_) _ _);refine wpList_store_at rfl 40 _ _ rfl (w.heap.size+1) 0 zeroPL rfl rfl 40 zeroPL zeroPL RZ2.out sizePLN rfl (Nat.le_refl 55) (zeroP_at w 0 0).one ?_)
 refine bodyPost_ret (results_cell_row2 rfl _ _ (w.heap.size+1) 40 zeroPL.toArray (0,0) _ rfl (RZ2.out.setRow zeroPL) Tryz.underlying40 rfl sizePLN) rfl ?_
 exact HF.out _ (below_setRow H2.out (by omega) _)
set_option maxRecDepth 100000 in
set_option maxHeartbeats 51200000 in
theorem rpl_n (l:List FuncD) (x:ExprD) (fa:Option Addr) (fc:Nat) (ms cs:List Value) (w:World) (B N:Nat) (hN:N≤1048576) (hB:B≤w.heap.size) (hT:TabAt w) (hln:l.length≤N) (hA:FuncsAt w B N l fa) (hx:ExprD.At w B N x ms) (hcs:cs=.slice fa l.length fc::ms) (h0:prgE l x=0) (h9:x.op≠9):Calls Tryz.prog 7 #[.agg cs.toArray] w (PlanR N l x w):=by
 have hwx:=err_wf (prg_main h0)
 obtain ⟨dm,hdm⟩:∃ dm,dm=(iE0:List Value):=⟨_,rfl⟩
 obtain ⟨e,he⟩:∃ e,e=x:=⟨_,rfl⟩
 obtain ⟨d,hd⟩:∃ d,d=identE:=⟨_,rfl⟩
 have hme:mainP x=e:=by rw [he];exact mainP_no h9
 have hbd:bodyP x=d:=by rw [hd];exact bodyP_no h9
 have hwe:e.op=30∨wfE 47 e:=.inr (by rw [he];exact hwx)
 have y2:ExprD.At w B N e ms:=by rw [he];exact hx
 have y4:ExprD.At w B N d dm:=by rw [hd,hdm];exact identE_at w B N
 have HEM:=Hd y2
 have HDM:=Hd y4
 have HE9:=Hd (show (e.op==9)=false by rw [he];simpa using h9)
 have HDD:=Hd hdm
 clear he hd h9 hdm
 have hsel:=stp_47 hwe
 obtain ⟨eaa,efa,eac,efc,evs,eh⟩:=y2.has
 have k1:=eh.name
 have hen:e.name.size≤N:=eh.own.2.1
 have ELEN:=Hd (show ms.length=17 from eh.len)
 have hle:=Hd (show (Tryz.prog.info? 34).map (·.size)=some ms.length by rw [ELEN.out];exact sizeE)
 have hle2:=Hd (show (Tryz.prog.info? 34).map (·.size)=some ms.toArray.size by rw [List.size_toArray,ELEN.out];exact sizeE)
 have hle3:=Hd (show zeroEA.size=ms.toArray.size by show 17=_;rw [List.size_toArray,ELEN.out])
 have HOE:=Hd y2.one
 have HOA:=Hd (show ms.toArray.all (·.oneCell')=true from Go.all_oneCell_toArray y2.one)
 have DLEN:=Hd (show dm.length=17 from y4.len)
 have hld:=Hd (show (Tryz.prog.info? 34).map (·.size)=some dm.length by rw [DLEN.out];exact sizeE)
 have HOD:=Hd y4.one
 have HEH:=Hd eh
 have HME:=Hd hme
 have HBD:=Hd hbd
 have HWE:=Hd hwe
 have HSEL:=Hd hsel
 clear eh y2 y4 hwx hwe hsel hme hbd
 have hml:ms.length=17:=hx.len
 have HMS:=Hd (show (cs.drop 1).take 17=ms by rw [hcs];exact List.take_of_length_le (show ms.length≤17 by omega))
 have hlm:=Hd (show (Tryz.prog.info? 34).map (·.size)=some ms.length by rw [hml];exact sizeE)
 have hlm2:=Hd (show (Tryz.prog.info? 34).map (·.size)=some ms.toArray.size by rw [List.size_toArray,hml];exact sizeE)
 have hlm3:=Hd (show zeroEA.size=ms.toArray.size by show 17=_;rw [List.size_toArray,hml])
 have HOM:=Hd (show ms.toArray.all (·.oneCell')=true from Go.all_oneCell_toArray hx.one)
 have HML:=Hd hml
 have hlc:=Hd (show (Tryz.prog.info? 36).map (·.size)=some cs.length by rw [hcs,List.length_cons,hml];exact sizePRG)
 have c0:cs[0]?=some (.slice fa l.length fc):=by rw [hcs];rfl
 have HC0:=Hd c0
 have HCS:=Hd hcs
 have HX:=Hd hx
 have HA:=Hd hA
 have HT:=Hd hT
 have RG0:=(RowT.new w 36 cs).alloc (.cells zP0 40)
 have RZ0:=RowT.new (w.alloc (.cells cs.toArray 36)) 40 zeroPL
 rw [World.size_alloc] at RZ0
 obtain ⟨w1,hw1⟩:∃ w1,w1=(w.alloc (.cells cs.toArray 36)).alloc (.cells zP0 40):=⟨_,rfl⟩
 rw [← hw1] at RG0
 have RG:=Hd RG0
 have RZ:=Hd (show RowT 40 w1 (w.heap.size+1) zeroPL by rw [hw1];exact RZ0)
 have H1:=Hd (show Below w.heap.size w w1 by rw [hw1];exact belowThen (belowBox w _) (belowBox _ _))
 have HW:=Hd hw1
 clear hcs hx hA hT hml c0 RG0 RZ0 hw1
 go_enter Tryz.func7,Tryz.ntmps7
 go_wp2_with ((with_reducible show wpList _ _ _ (⟨some 9,_,_,_,_,_⟩::_) _ _);refine wpList_load_mid rfl 36 _ rfl w.heap.size 0 rfl cs _ (by rw [← HW.out];exact RG.out.range) Tryz.underlying36 rfl hlc.out ?_)
 rw [← HW.out]
 refine (chk_r l x fa fc ms cs w1 B N hN (Nat.le_trans hB H1.out.size) (HT.out.below H1.out) (FuncsAt.below (H1.out.mono hB) _ HA.out) (HX.out.below (H1.out.mono hB)) HCS.out).mono ?_
 rintro e w2 ⟨rfl,hb2⟩
 have H2:=Hd (belowThen H1.out hb2)
 have RG2:=Hd (RG.out.then hb2)
 have RZ2:=Hd (RZ.out.then hb2)
 clear hb2 HW RG RZ H1
 rw [h0]
 go_wp2_with fail
 have HB0:=Hd (drewW w2)
 have M0:=RG2.out.cell HC0.out
 refine' join2 (F:=fun (u:World) (g:Nat)=>Below w2.heap.size w2 u∧w2.heap.size≤g∧RowT 40 u g (plnRow 1 (.slice none 0 0) ⟨#[]⟩ zeroEL zeroEL iE0 (.slice fa l.length fc))) ?mm ?tt
 case mm =>
  intro TAIL
  have TL:=Hd TAIL
  clear TAIL
  refine wp_region_held_drew (S:=fun u=>Below w2.heap.size w2 u) (by kernel_rfl) HB0.out (fun hHeld=>?_)
  refine' tk 1 (.pointer (some ⟨w.heap.size,0,none⟩)) rfl rfl (.inl ⟨by rfl,fun u hu=>(by go_simp)⟩) hHeld ?_
  simp only [sq1,sq0]
  refine' tk 2 (.slice fa l.length fc) rfl rfl (.inl ⟨by rfl,fun u hu=>(by have hc:=(RG2.out.then hu).cell HC0.out;go_simp)⟩) hHeld ?_
  simp only [sq1,sq0]
  refine wpAnyH_ready (rs:=[0,4]) (by kernel_rfl) (by simp) ?_
  refine AllReadyH.cons rfl (fun K hK=>?_) (AllReadyH.cons rfl (fun K hK=>?_) AllReadyH.nil)
  ·go_simp
   refine (ident_r _).mono ?_
   rintro e1 u1 ⟨rfl,hb1⟩
   refine hK.out _ _ (belowThen hHeld hb1) (fun hHeld1=>?_)
   clear hK K
   refine' tk 3 (.agg #[.int .i64 1,.slice none 0 0,.string ⟨#[]⟩,.int .i64 0,.string ⟨#[]⟩,.int .i64 0,.bool false,.bool false,.string ⟨#[]⟩,.int .i64 0,.int .i64 0,.int .i64 0,.int .i64 0,.int .i64 0,.string ⟨#[]⟩,.slice none 0 0,.slice none 0 0,.slice none 0 0,.slice none 0 0,.slice none 0 0,.int .i64 0,.string ⟨#[]⟩,.int .i64 0,.bool false,.bool false,.string ⟨#[]⟩,.int .i64 0,.int .i64 0,.int .i64 0,.int .i64 0,.int .i64 0,.string ⟨#[]⟩,.slice none 0 0,.slice none 0 0,.slice none 0 0,.slice none 0 0,.slice none 0 0,.int .i64 1,.string ⟨#[]⟩,.int .i64 0,.bool false,.bool false,.string ⟨#[]⟩,.int .i64 0,.int .i64 0,.int .i64 0,.int .i64 0,.int .i64 0,.string ⟨#[]⟩,.slice none 0 0,.slice none 0 0,.slice none 0 0,.slice none 0 0,.slice none 0 0,.slice fa l.length fc]) rfl rfl (.inl ⟨by rfl,fun u hu=>(by go_simp)⟩) hHeld1 ?_
   simp only [sq1,sq0]
   refine rd1 4 rfl (fun K hK=>?_)
   go_simp
   refine hK.out _ _ (belowThen hHeld1 (belowBox _ _)) (fun hHeld2=>?_)
   clear hK K
   have RN:RowT 40 (u1.alloc (.cells zP0 40)) u1.heap.size zeroPL:=RowT.new u1 40 zeroPL
   have hg:w2.heap.size≤u1.heap.size:=hHeld1.size
   refine rd1 5 rfl (fun K hK=>?_)
   rw [if_pos (by kernel_rfl)]
   refine wp_store_at 40 _ _ rfl u1.heap.size 0 (plnRow 1 (.slice none 0 0) ⟨#[]⟩ zeroEL zeroEL iE0 (.slice fa l.length fc)) rfl rfl 40 zeroPL _ RN sizePLN rfl (Nat.le_refl 55) (plnB_one w2 l fa fc) ?_
   generalize hu5:World.setRow _ _ _=u5
   have RQ:RowT 40 u5 u1.heap.size (plnRow 1 (.slice none 0 0) ⟨#[]⟩ zeroEL zeroEL iE0 (.slice fa l.length fc)):=by rw [← hu5];exact RN.setRow _
   have hq:Below w2.heap.size w2 u5:=by rw [← hu5];exact below_setRow hHeld2 hg _
   generalize u1.heap.size=g5 at RQ hg ⊢
   clear hu5
   refine hK.out _ _ hq (fun hHeldx=>?_)
   clear hK K hHeldx
   refine wpAnyH_done (by kernel_rfl) ?_ _
   exact TL.out _ _ ⟨hq,hg,RQ⟩
  ·go_simp
   refine hK.out _ _ (belowThen hHeld (belowBox _ _)) (fun hHeld2=>?_)
   clear hK K
   have RN2:RowT 40 (w2.drew.alloc (.cells zP0 40)) w2.heap.size zeroPL:=RowT.new w2.drew 40 zeroPL
   refine rd1 0 rfl (fun K hK=>?_)
   go_simp
   refine (ident_r _).mono ?_
   rintro e1 u1 ⟨rfl,hb1⟩
   refine hK.out _ _ (belowThen hHeld2 hb1) (fun hHeld1=>?_)
   clear hK K
   have RN:=RN2.then hb1
   refine' tk 3 (.agg #[.int .i64 1,.slice none 0 0,.string ⟨#[]⟩,.int .i64 0,.string ⟨#[]⟩,.int .i64 0,.bool false,.bool false,.string ⟨#[]⟩,.int .i64 0,.int .i64 0,.int .i64 0,.int .i64 0,.int .i64 0,.string ⟨#[]⟩,.slice none 0 0,.slice none 0 0,.slice none 0 0,.slice none 0 0,.slice none 0 0,.int .i64 0,.string ⟨#[]⟩,.int .i64 0,.bool false,.bool false,.string ⟨#[]⟩,.int .i64 0,.int .i64 0,.int .i64 0,.int .i64 0,.int .i64 0,.string ⟨#[]⟩,.slice none 0 0,.slice none 0 0,.slice none 0 0,.slice none 0 0,.slice none 0 0,.int .i64 1,.string ⟨#[]⟩,.int .i64 0,.bool false,.bool false,.string ⟨#[]⟩,.int .i64 0,.int .i64 0,.int .i64 0,.int .i64 0,.int .i64 0,.string ⟨#[]⟩,.slice none 0 0,.slice none 0 0,.slice none 0 0,.slice none 0 0,.slice none 0 0,.slice fa l.length fc]) rfl rfl (.inl ⟨by rfl,fun u hu=>(by go_simp)⟩) hHeld1 ?_
   simp only [sq1,sq0]
   refine rd1 5 rfl (fun K hK=>?_)
   rw [if_pos (by kernel_rfl)]
   refine wp_store_at 40 _ _ rfl w2.heap.size 0 (plnRow 1 (.slice none 0 0) ⟨#[]⟩ zeroEL zeroEL iE0 (.slice fa l.length fc)) rfl rfl 40 zeroPL _ RN sizePLN rfl (Nat.le_refl 55) (plnB_one w2 l fa fc) ?_
   generalize hu5:World.setRow _ _ _=u5
   have RQ:RowT 40 u5 w2.heap.size (plnRow 1 (.slice none 0 0) ⟨#[]⟩ zeroEL zeroEL iE0 (.slice fa l.length fc)):=by rw [← hu5];exact RN.setRow _
   have hq:Below w2.heap.size w2 u5:=by rw [← hu5];exact below_setRow hHeld1 (Nat.le_refl _) _
   clear hu5
   obtain ⟨g5,hg5⟩:∃ g5,g5=w2.heap.size:=⟨_,rfl⟩
   rw [← hg5] at RQ ⊢
   have hg:w2.heap.size≤g5:=by omega
   clear hg5
   refine hK.out _ _ hq (fun hHeldx=>?_)
   clear hK K hHeldx
   refine wpAnyH_done (by kernel_rfl) ?_ _
   exact TL.out _ _ ⟨hq,hg,RQ⟩
 clear HB0 M0
 rintro u g ⟨hbu,hgu,RXu⟩
 have HU:=Hd (belowThen H2.out hbu)
 have RX:=Hd RXu
 have RG3:=Hd (RG2.out.then hbu)
 have RZ3:=Hd (RZ2.out.then hbu)
 have hg1:=Hd (show w.heap.size+1<g from by have:=RZ2.out.lt;omega)
 clear hbu hgu RXu RG2 RZ2 H2
 by_cases hk:e.op=19
 ·have eh:=HEH.out
  have hme:=HME.out
  have hbd:=HBD.out
  have hwe:=HWE.out
  have k0:ms[0]?=some (.int .i64 19):=by rw [eh.op,hk]
  have hwe':=wfE_1 (hwe.resolve_left (by omega))
  have hel:=wf_num hwe' (n:=3) (by rw [hk];decide)
  have k15:ms[15]?=some (.slice eaa 3 eac):=by rw [eh.args,hel]
  have HPL:=Hd (plan_fold hme hbd (show foldP e=true by unfold foldP;simp [hk]) (by omega))
  obtain ⟨be,oe,rfl,hbe,hge⟩:=eh.atArgs.get (by intro h;simp [h] at hel)
  obtain ⟨r0,z0,v0⟩:=hge 0 (by omega)
  have Z0:=Hd z0
  have V0:=Hd v0
  have HO0:=Hd v0.one
  have R0LEN:=Hd (show r0.length=17 from v0.len)
  have hr0:=Hd (show (Tryz.prog.info? 34).map (·.size)=some r0.length by rw [R0LEN.out];exact sizeE)
  obtain ⟨r1,z1,v1⟩:=hge 1 (by omega)
  have Z1:=Hd z1
  have V1:=Hd v1
  have HO1:=Hd v1.one
  have R1LEN:=Hd (show r1.length=17 from v1.len)
  have hr1:=Hd (show (Tryz.prog.info? 34).map (·.size)=some r1.length by rw [R1LEN.out];exact sizeE)
  obtain ⟨r2,z2,v2⟩:=hge 2 (by omega)
  have Z2:=Hd z2
  have V2:=Hd v2
  have HO2:=Hd v2.one
  have R2LEN:=Hd (show r2.length=17 from v2.len)
  have hr2:=Hd (show (Tryz.prog.info? 34).map (·.size)=some r2.length by rw [R2LEN.out];exact sizeE)
  have hcon:=Hd (conr_47 (wf_kid47 (hwe.resolve_left (by omega)) (show 1<e.args.length by omega)))
  have hse0:=Hd (stp_47 (wf_kid47 (hwe.resolve_left (by omega)) (show 0<e.args.length by omega)))
  have HZ0:=Hd (show CellsAt w be oe r0 by rw [Nat.zero_mul,Nat.add_zero] at z0;exact z0)
  have HZ1:=Hd (show CellsAt w be (oe+17) r1 by rw [Nat.one_mul] at z1;exact z1)
  clear z0 z1 z2 v0 v1 v2
  have HBE:=Hd hbe
  clear hge hbe hwe'
  clear eh hme hbd hwe
  have RT1:=Hd (RowT.new u 34 ms)
  have RX1:=Hd (RX.out.alloc (.cells ms.toArray 34))
  have RZ1:=Hd (RZ3.out.alloc (.cells ms.toArray 34))
  have HB1:=Hd (belowThen HU.out (belowBox u (.cells ms.toArray 34)))
  have hgb:g<u.heap.size:=RX.out.lt
  have RX3:=Hd (show RowT 40 (u.alloc (.cells ms.toArray 34)) g (plnRow 1 (.slice none 0 0) ⟨#[]⟩ zeroEL zeroEL dm (.slice fa l.length fc)) by rw [HDD.out];exact RX1.out)
  have RE3:=Hd (show RowT 34 (u.alloc (.cells ms.toArray 34)) u.heap.size ms from RT1.out)
  have RZ4:=RZ1
  have HB3:=HB1
  have he9:=HE9.out
  have q0:=RE3.out.cell k0
  have qm:=RX3.out.cell (plnRow_0 1 (.slice none 0 0) ⟨#[]⟩ zeroEL zeroEL dm (.slice fa l.length fc))
  have qmf:=RX3.out.frozen 0
  have RXa:=Hd (show RowT 40 ((u.setCell ⟨g,0,none⟩ (.int .i64 2)).alloc (.cells ms.toArray 34)) g (plnRow 2 (.slice none 0 0) ⟨#[]⟩ zeroEL zeroEL dm (.slice fa l.length fc)) from by rw [HDD.out];exact (RX.out.set 0 _).alloc _)
  have REa:=Hd (show RowT 34 ((u.setCell ⟨g,0,none⟩ (.int .i64 2)).alloc (.cells ms.toArray 34)) u.heap.size ms from by have h:=RowT.new (u.setCell ⟨g,0,none⟩ (.int .i64 2)) 34 ms;rw [show (u.setCell ⟨g,0,none⟩ (.int .i64 2)).heap.size=u.heap.size by simp] at h;exact h)
  have RZa:=Hd (show RowT 40 ((u.setCell ⟨g,0,none⟩ (.int .i64 2)).alloc (.cells ms.toArray 34)) (w.heap.size+1) zeroPL from (RZ3.out.setOther (by have:=hg1.out;omega) _ _).alloc _)
  have HBa:=Hd (show Below w.heap.size w ((u.setCell ⟨g,0,none⟩ (.int .i64 2)).alloc (.cells ms.toArray 34)) from belowThen (below_set HU.out (by have:=hg1.out;omega) _) (belowBox _ _))
  have qa0:=REa.out.cell k0
  have qa15:=REa.out.cell k15
  go_wp2_with (first
   | ((with_reducible show wpList _ _ _ (⟨some 20,_,_,_,_,_⟩::_) _ _);refine wpList_load_mid rfl 34 _ rfl w.heap.size 1 rfl ms _ (RG3.out.cells.part HMS.out) Tryz.underlying34 rfl hlm.out ?_)
   | ((with_reducible show wpList _ _ _ (⟨none,.store 34 (.tmp 6) (.tmp 20),_,_,_,_⟩::_) _ _);refine wpList_store_new rfl 34 _ _ rfl zeroEA ms.toArray rfl rfl hlm2.out hlm3.out HOM.out ?_)
   | ((with_reducible show wpList _ _ _ (⟨some 61,_,_,_,_,_⟩::_) _ _);refine wpList_load_mid_f rfl 34 _ rfl be (oe+17) rfl r1 _ (HZ1.out.below (HBa.out.mono hB) HBE.out).range Tryz.underlying34 rfl hr1.out ?_))
  obtain ⟨u4,hu4⟩:∃ u4,u4=((u.setCell ⟨g,0,none⟩ (.int .i64 2)).alloc (.cells ms.toArray 34)):=⟨_,rfl⟩
  rw [← hu4] at RXa REa RZa HBa ⊢
  clear hu4 q0 qm qmf qa0 qa15
  refine (hcon.out u4 B N r1 hN (Nat.le_trans hB HBa.out.size) (V1.out.below (HBa.out.mono hB))).mono ?_
  rintro e5 v5 ⟨rfl,hb5⟩
  have HB5:=Hd (belowThen HBa.out hb5)
  have RX5:=Hd (RXa.out.then hb5)
  have RE5:=Hd (REa.out.then hb5)
  have RZ5:=Hd (RZa.out.then hb5)
  clear hb5
  obtain ⟨kc,hkc⟩:∃ kc,conS 47 e.args[1]=kc:=⟨_,rfl⟩
  have HKC:=Hd hkc
  rw [hkc]
  clear hkc
  cases kc
  ·have HN:=Hd (show planS x=none by rw [HPL.out,HKC.out];rfl)
   go_wp2_with ((with_reducible show wpList _ _ _ (⟨none,.store 40 (.tmp 2) (.tmp 65),_,_,_,_⟩::_) _ _);refine wpList_store_at rfl 40 _ _ rfl (w.heap.size+1) 0 zeroPL rfl rfl 40 zeroPL zeroPL RZ5.out sizePLN rfl (Nat.le_refl 55) (zeroP_at w 0 0).one ?_)
   refine bodyPost_ret (results_cell_row2 rfl _ _ (w.heap.size+1) 40 zeroPL.toArray (0,0) _ rfl (RZ5.out.setRow zeroPL) Tryz.underlying40 rfl sizePLN) rfl ?_
   exact PlanR.no h0 HN.out (below_setRow HB5.out (by omega) _)
  ·have HPM:=Hd (show planS x=(okSel (selS 47 e.args[0])).map fun l=>⟨2,l,e.name,e.args[1],e.args[2],d⟩ by rw [HPL.out,HKC.out,if_neg (by decide),hk];rfl)
   have RXb:=Hd (show RowT 40 (v5.setCell ⟨g,2,none⟩ (.string e.name)) g (plnRow 2 (.slice none 0 0) e.name zeroEL zeroEL dm (.slice fa l.length fc)) from RX5.out.set 2 _)
   have REb:=Hd (show RowT 34 (v5.setCell ⟨g,2,none⟩ (.string e.name)) u.heap.size ms from RE5.out.setOther (by omega) _ _)
   have RZb:=Hd (show RowT 40 (v5.setCell ⟨g,2,none⟩ (.string e.name)) (w.heap.size+1) zeroPL from RZ5.out.setOther (by have:=hg1.out;omega) _ _)
   have HBb:=Hd (show Below w.heap.size w (v5.setCell ⟨g,2,none⟩ (.string e.name)) from below_set HB5.out (by have:=hg1.out;omega) _)
   have RXc:=Hd (show RowT 40 ((v5.setCell ⟨g,2,none⟩ (.string e.name)).setRow g (plnRow 2 (.slice none 0 0) e.name r1 zeroEL dm (.slice fa l.length fc)).toArray) g (plnRow 2 (.slice none 0 0) e.name r1 zeroEL dm (.slice fa l.length fc)) from RXb.out.setRow _)
   have REc:=Hd (show RowT 34 ((v5.setCell ⟨g,2,none⟩ (.string e.name)).setRow g (plnRow 2 (.slice none 0 0) e.name r1 zeroEL dm (.slice fa l.length fc)).toArray) u.heap.size ms from REb.out.setRowOther (by omega) _)
   have RZc:=Hd (show RowT 40 ((v5.setCell ⟨g,2,none⟩ (.string e.name)).setRow g (plnRow 2 (.slice none 0 0) e.name r1 zeroEL dm (.slice fa l.length fc)).toArray) (w.heap.size+1) zeroPL from RZb.out.setRowOther (by have:=hg1.out;omega) _)
   have HBc:=Hd (show Below w.heap.size w ((v5.setCell ⟨g,2,none⟩ (.string e.name)).setRow g (plnRow 2 (.slice none 0 0) e.name r1 zeroEL dm (.slice fa l.length fc)).toArray) from below_setRow HBb.out (by have:=hg1.out;omega) _)
   have RXd:=Hd (show RowT 40 (((v5.setCell ⟨g,2,none⟩ (.string e.name)).setRow g (plnRow 2 (.slice none 0 0) e.name r1 zeroEL dm (.slice fa l.length fc)).toArray).setRow g (plnRow 2 (.slice none 0 0) e.name r1 r2 dm (.slice fa l.length fc)).toArray) g (plnRow 2 (.slice none 0 0) e.name r1 r2 dm (.slice fa l.length fc)) from RXc.out.setRow _)
   have REd:=Hd (show RowT 34 (((v5.setCell ⟨g,2,none⟩ (.string e.name)).setRow g (plnRow 2 (.slice none 0 0) e.name r1 zeroEL dm (.slice fa l.length fc)).toArray).setRow g (plnRow 2 (.slice none 0 0) e.name r1 r2 dm (.slice fa l.length fc)).toArray) u.heap.size ms from REc.out.setRowOther (by omega) _)
   have RZd:=Hd (show RowT 40 (((v5.setCell ⟨g,2,none⟩ (.string e.name)).setRow g (plnRow 2 (.slice none 0 0) e.name r1 zeroEL dm (.slice fa l.length fc)).toArray).setRow g (plnRow 2 (.slice none 0 0) e.name r1 r2 dm (.slice fa l.length fc)).toArray) (w.heap.size+1) zeroPL from RZc.out.setRowOther (by have:=hg1.out;omega) _)
   have HBd:=Hd (show Below w.heap.size w (((v5.setCell ⟨g,2,none⟩ (.string e.name)).setRow g (plnRow 2 (.slice none 0 0) e.name r1 zeroEL dm (.slice fa l.length fc)).toArray).setRow g (plnRow 2 (.slice none 0 0) e.name r1 r2 dm (.slice fa l.length fc)).toArray) from below_setRow HBc.out (by have:=hg1.out;omega) _)
   have RXe:=Hd (show RowT 40 ((((v5.setCell ⟨g,2,none⟩ (.string e.name)).setRow g (plnRow 2 (.slice none 0 0) e.name r1 zeroEL dm (.slice fa l.length fc)).toArray).setRow g (plnRow 2 (.slice none 0 0) e.name r1 r2 dm (.slice fa l.length fc)).toArray).setRow u.heap.size r0.toArray) g (plnRow 2 (.slice none 0 0) e.name r1 r2 dm (.slice fa l.length fc)) from RXd.out.setRowOther (by omega) _)
   have REe:=Hd (show RowT 34 ((((v5.setCell ⟨g,2,none⟩ (.string e.name)).setRow g (plnRow 2 (.slice none 0 0) e.name r1 zeroEL dm (.slice fa l.length fc)).toArray).setRow g (plnRow 2 (.slice none 0 0) e.name r1 r2 dm (.slice fa l.length fc)).toArray).setRow u.heap.size r0.toArray) u.heap.size r0 from REd.out.setRow _)
   have RZe:=Hd (show RowT 40 ((((v5.setCell ⟨g,2,none⟩ (.string e.name)).setRow g (plnRow 2 (.slice none 0 0) e.name r1 zeroEL dm (.slice fa l.length fc)).toArray).setRow g (plnRow 2 (.slice none 0 0) e.name r1 r2 dm (.slice fa l.length fc)).toArray).setRow u.heap.size r0.toArray) (w.heap.size+1) zeroPL from RZd.out.setRowOther (by have:=hg1.out;omega) _)
   have HBe:=Hd (show Below w.heap.size w ((((v5.setCell ⟨g,2,none⟩ (.string e.name)).setRow g (plnRow 2 (.slice none 0 0) e.name r1 zeroEL dm (.slice fa l.length fc)).toArray).setRow g (plnRow 2 (.slice none 0 0) e.name r1 r2 dm (.slice fa l.length fc)).toArray).setRow u.heap.size r0.toArray) from below_setRow HBd.out (by have:=hg1.out;omega) _)
   have s1:=RE5.out.cell k1
   have s15b:=REb.out.cell k15
   have s15c:=REc.out.cell k15
   have s15d:=REd.out.cell k15
   have s2:=RX5.out.cell (plnRow_2 2 (.slice none 0 0) ⟨#[]⟩ zeroEL zeroEL dm (.slice fa l.length fc))
   have sf2:=RX5.out.frozen 2
   go_wp2_with (first
    | ((with_reducible show wpList _ _ _ (⟨some 72,_,_,_,_,_⟩::_) _ _);refine wpList_load_mid rfl 34 _ rfl be (oe+17) rfl r1 _ (HZ1.out.below (HBb.out.mono hB) HBE.out).range Tryz.underlying34 rfl hr1.out ?_)
    | ((with_reducible show wpList _ _ _ (⟨none,.store 34 (.tmp 73) (.tmp 72),_,_,_,_⟩::_) _ _);refine wpList_store_at rfl 34 _ _ rfl g 3 r1 rfl rfl 40 (plnRow 2 (.slice none 0 0) e.name zeroEL zeroEL dm (.slice fa l.length fc)) (plnRow 2 (.slice none 0 0) e.name r1 zeroEL dm (.slice fa l.length fc)) RXb.out hr1.out (plnRow_setInit _ _ _ _ rfl R1LEN.out) (by rw [R1LEN.out,plnRow_len _ _ _ _ rfl rfl DLEN.out];exact Nat.le_of_ble_eq_true rfl) HO1.out ?_)
    | ((with_reducible show wpList _ _ _ (⟨some 77,_,_,_,_,_⟩::_) _ _);refine wpList_load_mid rfl 34 _ rfl be (oe+34) rfl r2 _ (Z2.out.below (HBc.out.mono hB) HBE.out).range Tryz.underlying34 rfl hr2.out ?_)
    | ((with_reducible show wpList _ _ _ (⟨none,.store 34 (.tmp 78) (.tmp 77),_,_,_,_⟩::_) _ _);refine wpList_store_at rfl 34 _ _ rfl g 20 r2 rfl rfl 40 (plnRow 2 (.slice none 0 0) e.name r1 zeroEL dm (.slice fa l.length fc)) (plnRow 2 (.slice none 0 0) e.name r1 r2 dm (.slice fa l.length fc)) RXc.out hr2.out (plnRow_setUpd _ _ _ _ R1LEN.out rfl R2LEN.out) (by rw [R2LEN.out,plnRow_len _ _ _ _ R1LEN.out rfl DLEN.out];exact Nat.le_of_ble_eq_true rfl) HO2.out ?_)
    | ((with_reducible show wpList _ _ _ (⟨some 82,_,_,_,_,_⟩::_) _ _);refine wpList_load_mid rfl 34 _ rfl be oe rfl r0 _ (HZ0.out.below (HBd.out.mono hB) HBE.out).range Tryz.underlying34 rfl hr0.out ?_)
    | ((with_reducible show wpList _ _ _ (⟨none,.store 34 (.tmp 6) (.tmp 82),_,_,_,_⟩::_) _ _);refine wpList_store_row rfl 34 _ _ rfl u.heap.size r0.toArray rfl rfl 34 ms.toArray REd.out (by rw [List.size_toArray];exact hr0.out) (by rw [List.size_toArray,List.size_toArray,ELEN.out,R0LEN.out]) (Go.all_oneCell_toArray HO0.out) ?_)
    | ((with_reducible show wpList _ _ _ (⟨some 84,_,_,_,_,_⟩::_) _ _);refine wpList_load_mid rfl 34 _ rfl u.heap.size 0 rfl r0 _ REe.out.range Tryz.underlying34 rfl hr0.out ?_))
   obtain ⟨u6,hu6⟩:∃ u6,u6=((((v5.setCell ⟨g,2,none⟩ (.string e.name)).setRow g (plnRow 2 (.slice none 0 0) e.name r1 zeroEL dm (.slice fa l.length fc)).toArray).setRow g (plnRow 2 (.slice none 0 0) e.name r1 r2 dm (.slice fa l.length fc)).toArray).setRow u.heap.size r0.toArray):=⟨_,rfl⟩
   rw [← hu6] at RXe REe RZe HBe ⊢
   clear hu6 s1 s15b s15c s15d s2 sf2 RXb REb RZb RXc REc RZc RXd REd RZd
   refine (hse0.out u6 B N _ hN (Nat.le_trans hB HBe.out.size) (V0.out.below (HBe.out.mono hB))).mono ?_
   rintro e7 v7 ⟨sv,sl,k7,rfl,HO7,hl48,HS7,hb7⟩
   have HB7:=Hd (belowThen HBe.out hb7)
   have RX7:=Hd (RXe.out.then hb7)
   have RZ7:=Hd (RZe.out.then hb7)
   have hgw:=Hd (show g<u6.heap.size from RXe.out.lt)
   have hs7:=Hd (show u6.heap.size≤v7.heap.size from hb7.size)
   clear hb7
   obtain ⟨ad,cp,rfl,hsafe⟩:=sels_own HO7.out (Nat.le_refl _)
   have HSF:=Hd hsafe
   clear hsafe HO7
   cases k7
   ·have HN:=Hd (show planS x=none by rw [HPM.out];exact sel_none (by rw [HS7.out];rfl))
    go_wp2_with ((with_reducible show wpList _ _ _ (⟨none,.store 40 (.tmp 2) (.tmp 100),_,_,_,_⟩::_) _ _);refine wpList_store_at rfl 40 _ _ rfl (w.heap.size+1) 0 zeroPL rfl rfl 40 zeroPL zeroPL RZ7.out sizePLN rfl (Nat.le_refl 55) (zeroP_at w 0 0).one ?_)
    refine bodyPost_ret (results_cell_row2 rfl _ _ (w.heap.size+1) 40 zeroPL.toArray (0,0) _ rfl (RZ7.out.setRow zeroPL) Tryz.underlying40 rfl sizePLN) rfl ?_
    exact PlanR.no h0 HN.out (below_setRow HB7.out (by omega) _)
   ·by_cases hz:sl.length=0
    ·have HN:=Hd (show planS x=none by
      rw [HPM.out]
      exact sel_none (by rw [HS7.out];show okSel (some sl)=none;unfold okSel;rw [Option.bind_some,if_neg (fun g=>by omega)]))
     rw [hz]
     go_wp2_with ((with_reducible show wpList _ _ _ (⟨none,.store 40 (.tmp 2) (.tmp 100),_,_,_,_⟩::_) _ _);refine wpList_store_at rfl 40 _ _ rfl (w.heap.size+1) 0 zeroPL rfl rfl 40 zeroPL zeroPL RZ7.out sizePLN rfl (Nat.le_refl 55) (zeroP_at w 0 0).one ?_)
     refine bodyPost_ret (results_cell_row2 rfl _ _ (w.heap.size+1) 40 zeroPL.toArray (0,0) _ rfl (RZ7.out.setRow zeroPL) Tryz.underlying40 rfl sizePLN) rfl ?_
     exact PlanR.no h0 HN.out (below_setRow HB7.out (by omega) _)
    ·have HN:=Hd (show planS x=some ⟨2,sl,e.name,e.args[1],e.args[2],d⟩ by
      rw [HPM.out,HS7.out,show okSel (if true=true then some sl else none)=some sl by show okSel (some sl)=some sl;unfold okSel;rw [Option.bind_some,if_pos ⟨by omega,hl48⟩]]
      rfl)
     have RX8:=Hd (show RowT 40 (v7.setCell ⟨g,1,none⟩ (.slice ad sl.length cp)) g (plnRow 2 (.slice ad sl.length cp) e.name r1 r2 dm (.slice fa l.length fc)) from RX7.out.set 1 _)
     have RZ8:=Hd (show RowT 40 (v7.setCell ⟨g,1,none⟩ (.slice ad sl.length cp)) (w.heap.size+1) zeroPL from RZ7.out.setOther (by have:=hg1.out;omega) _ _)
     have HB8:=Hd (show Below w.heap.size w (v7.setCell ⟨g,1,none⟩ (.slice ad sl.length cp)) from below_set HB7.out (by have:=hg1.out;omega) _)
     have hpl:((plnRow 2 (.slice ad sl.length cp) e.name r1 r2 dm (.slice fa l.length fc)):List Value).length=55:=plnRow_len _ _ _ _ R1LEN.out R2LEN.out DLEN.out
     have hp1:=Hd (show (Tryz.prog.info? 40).map (·.size)=some ((plnRow 2 (.slice ad sl.length cp) e.name r1 r2 dm (.slice fa l.length fc)):List Value).length by rw [hpl];exact sizePLN)
     have hp2:=Hd (show (Tryz.prog.info? 40).map (·.size)=some ((plnRow 2 (.slice ad sl.length cp) e.name r1 r2 dm (.slice fa l.length fc)):List Value).toArray.size by rw [List.size_toArray,hpl];exact sizePLN)
     have hp3:=Hd (show zeroPL.toArray.size=((plnRow 2 (.slice ad sl.length cp) e.name r1 r2 dm (.slice fa l.length fc)):List Value).toArray.size by show 55=_;rw [List.size_toArray,hpl])
     have hp4:=Hd (show ((plnRow 2 (.slice ad sl.length cp) e.name r1 r2 dm (.slice fa l.length fc)):List Value).toArray.all (·.oneCell')=true from Go.all_oneCell_toArray (plnRow_one rfl HO1.out HO2.out HOD.out rfl))
     clear hpl
     have hz0:((sl.length:Int)==0)=false:=by simpa using hz
     have t1:=RX7.out.cell (plnRow_1 2 (.slice none 0 0) e.name r1 r2 dm (.slice fa l.length fc))
     have tf1:=RX7.out.frozen 1
     have hz8:¬ (48:Int)<(sl.length:Int):=by omega
     go_wp2_with (first
      | ((with_reducible show wpList _ _ _ (⟨some 103,_,_,_,_,_⟩::_) _ _);refine wpList_load_mid rfl 40 _ rfl g 0 rfl (plnRow 2 (.slice ad sl.length cp) e.name r1 r2 dm (.slice fa l.length fc)) _ RX8.out.range Tryz.underlying40 rfl hp1.out ?_)
      | ((with_reducible show wpList _ _ _ (⟨none,.store 40 (.tmp 2) (.tmp 103),_,_,_,_⟩::_) _ _);refine wpList_store_row rfl 40 _ _ rfl (w.heap.size+1) ((plnRow 2 (.slice ad sl.length cp) e.name r1 r2 dm (.slice fa l.length fc)):List Value).toArray rfl rfl 40 zeroPL.toArray RZ8.out hp2.out hp3.out hp4.out ?_))
     refine bodyPost_ret (results_cell_row2 rfl _ _ (w.heap.size+1) 40 ((plnRow 2 (.slice ad sl.length cp) e.name r1 r2 dm (.slice fa l.length fc)):List Value).toArray (0,0) _ rfl (RZ8.out.setRow (plnRow 2 (.slice ad sl.length cp) e.name r1 r2 dm (.slice fa l.length fc))) Tryz.underlying40 rfl hp2.out) rfl ?_
     have HB9:=Hd (show Below w.heap.size w ((v7.setCell ⟨g,1,none⟩ (.slice ad sl.length cp)).setRow (w.heap.size+1) ((plnRow 2 (.slice ad sl.length cp) e.name r1 r2 dm (.slice fa l.length fc)):List Value).toArray) from below_setRow HB8.out (by omega) _)
     refine PlanR.yes h0 HN.out ⟨ad,cp,_,_,_,fa,fc,rfl,hl48,hen,hln,?_,?_,?_,?_,?_⟩ HB9.out
     ·refine HSF.out _ ⟨by rw [setRow_size];simp,fun k h1 _ _=>?_⟩
      have hq:=hgw.out
      have hq1:=hg1.out
      rw [setRow_other _ _ _ _ (by omega),heap_setCell_other _ _ _ _ (by simp;omega)]
     ·exact ExprD.At.mono (Nat.le_trans hB HB9.out.size) _ (V1.out.below (HB9.out.mono hB))
     ·exact ExprD.At.mono (Nat.le_trans hB HB9.out.size) _ (V2.out.below (HB9.out.mono hB))
     ·exact ExprD.At.mono (Nat.le_trans hB HB9.out.size) _ (HDM.out.below (HB9.out.mono hB))
     ·exact FuncsAt.mono (Nat.le_trans hB HB9.out.size) _ (FuncsAt.below (HB9.out.mono hB) _ HA.out)
 by_cases hk2:e.op=20
 ·have hka:=hk2
  clear hk
  have hk:=hka
  clear hka hk2
  by_cases ha:(argN e 3).op=30
  ·have eh:=HEH.out
   have hme:=HME.out
   have hbd:=HBD.out
   have hwe:=HWE.out
   have k0:ms[0]?=some (.int .i64 20):=by rw [eh.op,hk]
   have hwe':=wfE_1 (hwe.resolve_left (by omega))
   have hel:=wf_num hwe' (n:=4) (by rw [hk];decide)
   have k15:ms[15]?=some (.slice eaa 4 eac):=by rw [eh.args,hel]
   rw [argN_get (by omega:3<e.args.length)] at ha
   have HPL:=Hd (plan_fold hme hbd (show foldP e=true by unfold foldP;rw [argN_get (by omega:3<e.args.length)];simp [hk,ha]) (by omega))
   obtain ⟨be,oe,rfl,hbe,hge⟩:=eh.atArgs.get (by intro h;simp [h] at hel)
   obtain ⟨r0,z0,v0⟩:=hge 0 (by omega)
   have Z0:=Hd z0
   have V0:=Hd v0
   have HO0:=Hd v0.one
   have R0LEN:=Hd (show r0.length=17 from v0.len)
   have hr0:=Hd (show (Tryz.prog.info? 34).map (·.size)=some r0.length by rw [R0LEN.out];exact sizeE)
   obtain ⟨r1,z1,v1⟩:=hge 1 (by omega)
   have Z1:=Hd z1
   have V1:=Hd v1
   have HO1:=Hd v1.one
   have R1LEN:=Hd (show r1.length=17 from v1.len)
   have hr1:=Hd (show (Tryz.prog.info? 34).map (·.size)=some r1.length by rw [R1LEN.out];exact sizeE)
   obtain ⟨r2,z2,v2⟩:=hge 2 (by omega)
   have Z2:=Hd z2
   have V2:=Hd v2
   have HO2:=Hd v2.one
   have R2LEN:=Hd (show r2.length=17 from v2.len)
   have hr2:=Hd (show (Tryz.prog.info? 34).map (·.size)=some r2.length by rw [R2LEN.out];exact sizeE)
   have hcon:=Hd (conr_47 (wf_kid47 (hwe.resolve_left (by omega)) (show 1<e.args.length by omega)))
   have hse0:=Hd (stp_47 (wf_kid47 (hwe.resolve_left (by omega)) (show 0<e.args.length by omega)))
   have HZ0:=Hd (show CellsAt w be oe r0 by rw [Nat.zero_mul,Nat.add_zero] at z0;exact z0)
   have HZ1:=Hd (show CellsAt w be (oe+17) r1 by rw [Nat.one_mul] at z1;exact z1)
   clear z0 z1 z2 v0 v1 v2
   obtain ⟨r3,z3,v3⟩:=hge 3 (by omega)
   obtain ⟨_,_,_,_,_,vh3⟩:=v3.has
   have Z3:=Hd z3
   have K30:=Hd vh3.op
   clear z3 v3 vh3
   have HBE:=Hd hbe
   clear hge hbe hwe'
   clear eh hme hbd hwe
   have RT1:=Hd (RowT.new u 34 ms)
   have RX1:=Hd (RX.out.alloc (.cells ms.toArray 34))
   have RZ1:=Hd (RZ3.out.alloc (.cells ms.toArray 34))
   have HB1:=Hd (belowThen HU.out (belowBox u (.cells ms.toArray 34)))
   have hgb:g<u.heap.size:=RX.out.lt
   have RX3:=Hd (show RowT 40 (u.alloc (.cells ms.toArray 34)) g (plnRow 1 (.slice none 0 0) ⟨#[]⟩ zeroEL zeroEL dm (.slice fa l.length fc)) by rw [HDD.out];exact RX1.out)
   have RE3:=Hd (show RowT 34 (u.alloc (.cells ms.toArray 34)) u.heap.size ms from RT1.out)
   have RZ4:=RZ1
   have HB3:=HB1
   have he9:=HE9.out
   have q0:=RE3.out.cell k0
   have qm:=RX3.out.cell (plnRow_0 1 (.slice none 0 0) ⟨#[]⟩ zeroEL zeroEL dm (.slice fa l.length fc))
   have qmf:=RX3.out.frozen 0
   have RXa:=Hd (show RowT 40 (((u.setCell ⟨g,0,none⟩ (.int .i64 2)).setCell ⟨g,0,none⟩ (.int .i64 3)).alloc (.cells ms.toArray 34)) g (plnRow 3 (.slice none 0 0) ⟨#[]⟩ zeroEL zeroEL dm (.slice fa l.length fc)) from by rw [HDD.out];exact ((RX.out.set 0 _).set 0 _).alloc _)
   have REa:=Hd (show RowT 34 (((u.setCell ⟨g,0,none⟩ (.int .i64 2)).setCell ⟨g,0,none⟩ (.int .i64 3)).alloc (.cells ms.toArray 34)) u.heap.size ms from by have h:=RowT.new ((u.setCell ⟨g,0,none⟩ (.int .i64 2)).setCell ⟨g,0,none⟩ (.int .i64 3)) 34 ms;rw [show ((u.setCell ⟨g,0,none⟩ (.int .i64 2)).setCell ⟨g,0,none⟩ (.int .i64 3)).heap.size=u.heap.size by simp] at h;exact h)
   have RZa:=Hd (show RowT 40 (((u.setCell ⟨g,0,none⟩ (.int .i64 2)).setCell ⟨g,0,none⟩ (.int .i64 3)).alloc (.cells ms.toArray 34)) (w.heap.size+1) zeroPL from ((RZ3.out.setOther (by have:=hg1.out;omega) _ _).setOther (by have:=hg1.out;omega) _ _).alloc _)
   have HBa:=Hd (show Below w.heap.size w (((u.setCell ⟨g,0,none⟩ (.int .i64 2)).setCell ⟨g,0,none⟩ (.int .i64 3)).alloc (.cells ms.toArray 34)) from belowThen (below_set (below_set HU.out (by have:=hg1.out;omega) _) (by have:=hg1.out;omega) _) (belowBox _ _))
   have qa0:=REa.out.cell k0
   have qa15:=REa.out.cell k15
   have qn:=((RX.out.set 0 (.int .i64 2)).alloc (.cells ms.toArray 34)).cell (j:=0) (v:=.int .i64 2) rfl
   have qnf:=((RX.out.set 0 (.int .i64 2)).alloc (.cells ms.toArray 34)).frozen 0
   have qb0:((u.setCell ⟨g,0,none⟩ (.int .i64 2)).alloc (.cells ms.toArray 34)).cell? ⟨u.heap.size,0,none⟩=some (.int .i64 20):=by
    have h:=RowT.new (u.setCell ⟨g,0,none⟩ (.int .i64 2)) 34 ms
    rw [show (u.setCell ⟨g,0,none⟩ (.int .i64 2)).heap.size=u.heap.size by simp] at h
    exact h.cell k0
   have qc3:=Hd (Z3.out.below (HBa.out.mono hB) HBE.out)
   have qd3:(((u.setCell ⟨g,0,none⟩ (.int .i64 2)).setCell ⟨g,0,none⟩ (.int .i64 3)).alloc (.cells ms.toArray 34)).cell? ⟨be,oe+51,none⟩=some (.int .i64 e.args[3].op):=by
    have h:=qc3.out 0 (List.getElem?_eq_some_iff.1 K30.out).1
    rw [K30.out] at h
    exact h
   rw [ha] at qd3
   go_wp2_with (first
    | ((with_reducible show wpList _ _ _ (⟨some 20,_,_,_,_,_⟩::_) _ _);refine wpList_load_mid rfl 34 _ rfl w.heap.size 1 rfl ms _ (RG3.out.cells.part HMS.out) Tryz.underlying34 rfl hlm.out ?_)
    | ((with_reducible show wpList _ _ _ (⟨none,.store 34 (.tmp 6) (.tmp 20),_,_,_,_⟩::_) _ _);refine wpList_store_new rfl 34 _ _ rfl zeroEA ms.toArray rfl rfl hlm2.out hlm3.out HOM.out ?_)
    | ((with_reducible show wpList _ _ _ (⟨some 61,_,_,_,_,_⟩::_) _ _);refine wpList_load_mid_f rfl 34 _ rfl be (oe+17) rfl r1 _ (HZ1.out.below (HBa.out.mono hB) HBE.out).range Tryz.underlying34 rfl hr1.out ?_))
   obtain ⟨u4,hu4⟩:∃ u4,u4=(((u.setCell ⟨g,0,none⟩ (.int .i64 2)).setCell ⟨g,0,none⟩ (.int .i64 3)).alloc (.cells ms.toArray 34)):=⟨_,rfl⟩
   rw [← hu4] at RXa REa RZa HBa ⊢
   clear hu4 q0 qm qmf qa0 qa15 qn qnf qb0 qc3 qd3
   refine (hcon.out u4 B N r1 hN (Nat.le_trans hB HBa.out.size) (V1.out.below (HBa.out.mono hB))).mono ?_
   rintro e5 v5 ⟨rfl,hb5⟩
   have HB5:=Hd (belowThen HBa.out hb5)
   have RX5:=Hd (RXa.out.then hb5)
   have RE5:=Hd (REa.out.then hb5)
   have RZ5:=Hd (RZa.out.then hb5)
   clear hb5
   obtain ⟨kc,hkc⟩:∃ kc,conS 47 e.args[1]=kc:=⟨_,rfl⟩
   have HKC:=Hd hkc
   rw [hkc]
   clear hkc
   cases kc
   ·have HN:=Hd (show planS x=none by rw [HPL.out,HKC.out];rfl)
    go_wp2_with ((with_reducible show wpList _ _ _ (⟨none,.store 40 (.tmp 2) (.tmp 65),_,_,_,_⟩::_) _ _);refine wpList_store_at rfl 40 _ _ rfl (w.heap.size+1) 0 zeroPL rfl rfl 40 zeroPL zeroPL RZ5.out sizePLN rfl (Nat.le_refl 55) (zeroP_at w 0 0).one ?_)
    refine bodyPost_ret (results_cell_row2 rfl _ _ (w.heap.size+1) 40 zeroPL.toArray (0,0) _ rfl (RZ5.out.setRow zeroPL) Tryz.underlying40 rfl sizePLN) rfl ?_
    exact PlanR.no h0 HN.out (below_setRow HB5.out (by omega) _)
   ·have HPM:=Hd (show planS x=(okSel (selS 47 e.args[0])).map fun l=>⟨3,l,e.name,e.args[1],e.args[2],d⟩ by rw [HPL.out,HKC.out,if_neg (by decide),hk];rfl)
    have RXb:=Hd (show RowT 40 (v5.setCell ⟨g,2,none⟩ (.string e.name)) g (plnRow 3 (.slice none 0 0) e.name zeroEL zeroEL dm (.slice fa l.length fc)) from RX5.out.set 2 _)
    have REb:=Hd (show RowT 34 (v5.setCell ⟨g,2,none⟩ (.string e.name)) u.heap.size ms from RE5.out.setOther (by omega) _ _)
    have RZb:=Hd (show RowT 40 (v5.setCell ⟨g,2,none⟩ (.string e.name)) (w.heap.size+1) zeroPL from RZ5.out.setOther (by have:=hg1.out;omega) _ _)
    have HBb:=Hd (show Below w.heap.size w (v5.setCell ⟨g,2,none⟩ (.string e.name)) from below_set HB5.out (by have:=hg1.out;omega) _)
    have RXc:=Hd (show RowT 40 ((v5.setCell ⟨g,2,none⟩ (.string e.name)).setRow g (plnRow 3 (.slice none 0 0) e.name r1 zeroEL dm (.slice fa l.length fc)).toArray) g (plnRow 3 (.slice none 0 0) e.name r1 zeroEL dm (.slice fa l.length fc)) from RXb.out.setRow _)
    have REc:=Hd (show RowT 34 ((v5.setCell ⟨g,2,none⟩ (.string e.name)).setRow g (plnRow 3 (.slice none 0 0) e.name r1 zeroEL dm (.slice fa l.length fc)).toArray) u.heap.size ms from REb.out.setRowOther (by omega) _)
    have RZc:=Hd (show RowT 40 ((v5.setCell ⟨g,2,none⟩ (.string e.name)).setRow g (plnRow 3 (.slice none 0 0) e.name r1 zeroEL dm (.slice fa l.length fc)).toArray) (w.heap.size+1) zeroPL from RZb.out.setRowOther (by have:=hg1.out;omega) _)
    have HBc:=Hd (show Below w.heap.size w ((v5.setCell ⟨g,2,none⟩ (.string e.name)).setRow g (plnRow 3 (.slice none 0 0) e.name r1 zeroEL dm (.slice fa l.length fc)).toArray) from below_setRow HBb.out (by have:=hg1.out;omega) _)
    have RXd:=Hd (show RowT 40 (((v5.setCell ⟨g,2,none⟩ (.string e.name)).setRow g (plnRow 3 (.slice none 0 0) e.name r1 zeroEL dm (.slice fa l.length fc)).toArray).setRow g (plnRow 3 (.slice none 0 0) e.name r1 r2 dm (.slice fa l.length fc)).toArray) g (plnRow 3 (.slice none 0 0) e.name r1 r2 dm (.slice fa l.length fc)) from RXc.out.setRow _)
    have REd:=Hd (show RowT 34 (((v5.setCell ⟨g,2,none⟩ (.string e.name)).setRow g (plnRow 3 (.slice none 0 0) e.name r1 zeroEL dm (.slice fa l.length fc)).toArray).setRow g (plnRow 3 (.slice none 0 0) e.name r1 r2 dm (.slice fa l.length fc)).toArray) u.heap.size ms from REc.out.setRowOther (by omega) _)
    have RZd:=Hd (show RowT 40 (((v5.setCell ⟨g,2,none⟩ (.string e.name)).setRow g (plnRow 3 (.slice none 0 0) e.name r1 zeroEL dm (.slice fa l.length fc)).toArray).setRow g (plnRow 3 (.slice none 0 0) e.name r1 r2 dm (.slice fa l.length fc)).toArray) (w.heap.size+1) zeroPL from RZc.out.setRowOther (by have:=hg1.out;omega) _)
    have HBd:=Hd (show Below w.heap.size w (((v5.setCell ⟨g,2,none⟩ (.string e.name)).setRow g (plnRow 3 (.slice none 0 0) e.name r1 zeroEL dm (.slice fa l.length fc)).toArray).setRow g (plnRow 3 (.slice none 0 0) e.name r1 r2 dm (.slice fa l.length fc)).toArray) from below_setRow HBc.out (by have:=hg1.out;omega) _)
    have RXe:=Hd (show RowT 40 ((((v5.setCell ⟨g,2,none⟩ (.string e.name)).setRow g (plnRow 3 (.slice none 0 0) e.name r1 zeroEL dm (.slice fa l.length fc)).toArray).setRow g (plnRow 3 (.slice none 0 0) e.name r1 r2 dm (.slice fa l.length fc)).toArray).setRow u.heap.size r0.toArray) g (plnRow 3 (.slice none 0 0) e.name r1 r2 dm (.slice fa l.length fc)) from RXd.out.setRowOther (by omega) _)
    have REe:=Hd (show RowT 34 ((((v5.setCell ⟨g,2,none⟩ (.string e.name)).setRow g (plnRow 3 (.slice none 0 0) e.name r1 zeroEL dm (.slice fa l.length fc)).toArray).setRow g (plnRow 3 (.slice none 0 0) e.name r1 r2 dm (.slice fa l.length fc)).toArray).setRow u.heap.size r0.toArray) u.heap.size r0 from REd.out.setRow _)
    have RZe:=Hd (show RowT 40 ((((v5.setCell ⟨g,2,none⟩ (.string e.name)).setRow g (plnRow 3 (.slice none 0 0) e.name r1 zeroEL dm (.slice fa l.length fc)).toArray).setRow g (plnRow 3 (.slice none 0 0) e.name r1 r2 dm (.slice fa l.length fc)).toArray).setRow u.heap.size r0.toArray) (w.heap.size+1) zeroPL from RZd.out.setRowOther (by have:=hg1.out;omega) _)
    have HBe:=Hd (show Below w.heap.size w ((((v5.setCell ⟨g,2,none⟩ (.string e.name)).setRow g (plnRow 3 (.slice none 0 0) e.name r1 zeroEL dm (.slice fa l.length fc)).toArray).setRow g (plnRow 3 (.slice none 0 0) e.name r1 r2 dm (.slice fa l.length fc)).toArray).setRow u.heap.size r0.toArray) from below_setRow HBd.out (by have:=hg1.out;omega) _)
    have s1:=RE5.out.cell k1
    have s15b:=REb.out.cell k15
    have s15c:=REc.out.cell k15
    have s15d:=REd.out.cell k15
    have s2:=RX5.out.cell (plnRow_2 3 (.slice none 0 0) ⟨#[]⟩ zeroEL zeroEL dm (.slice fa l.length fc))
    have sf2:=RX5.out.frozen 2
    go_wp2_with (first
     | ((with_reducible show wpList _ _ _ (⟨some 72,_,_,_,_,_⟩::_) _ _);refine wpList_load_mid rfl 34 _ rfl be (oe+17) rfl r1 _ (HZ1.out.below (HBb.out.mono hB) HBE.out).range Tryz.underlying34 rfl hr1.out ?_)
     | ((with_reducible show wpList _ _ _ (⟨none,.store 34 (.tmp 73) (.tmp 72),_,_,_,_⟩::_) _ _);refine wpList_store_at rfl 34 _ _ rfl g 3 r1 rfl rfl 40 (plnRow 3 (.slice none 0 0) e.name zeroEL zeroEL dm (.slice fa l.length fc)) (plnRow 3 (.slice none 0 0) e.name r1 zeroEL dm (.slice fa l.length fc)) RXb.out hr1.out (plnRow_setInit _ _ _ _ rfl R1LEN.out) (by rw [R1LEN.out,plnRow_len _ _ _ _ rfl rfl DLEN.out];exact Nat.le_of_ble_eq_true rfl) HO1.out ?_)
     | ((with_reducible show wpList _ _ _ (⟨some 77,_,_,_,_,_⟩::_) _ _);refine wpList_load_mid rfl 34 _ rfl be (oe+34) rfl r2 _ (Z2.out.below (HBc.out.mono hB) HBE.out).range Tryz.underlying34 rfl hr2.out ?_)
     | ((with_reducible show wpList _ _ _ (⟨none,.store 34 (.tmp 78) (.tmp 77),_,_,_,_⟩::_) _ _);refine wpList_store_at rfl 34 _ _ rfl g 20 r2 rfl rfl 40 (plnRow 3 (.slice none 0 0) e.name r1 zeroEL dm (.slice fa l.length fc)) (plnRow 3 (.slice none 0 0) e.name r1 r2 dm (.slice fa l.length fc)) RXc.out hr2.out (plnRow_setUpd _ _ _ _ R1LEN.out rfl R2LEN.out) (by rw [R2LEN.out,plnRow_len _ _ _ _ R1LEN.out rfl DLEN.out];exact Nat.le_of_ble_eq_true rfl) HO2.out ?_)
     | ((with_reducible show wpList _ _ _ (⟨some 82,_,_,_,_,_⟩::_) _ _);refine wpList_load_mid rfl 34 _ rfl be oe rfl r0 _ (HZ0.out.below (HBd.out.mono hB) HBE.out).range Tryz.underlying34 rfl hr0.out ?_)
     | ((with_reducible show wpList _ _ _ (⟨none,.store 34 (.tmp 6) (.tmp 82),_,_,_,_⟩::_) _ _);refine wpList_store_row rfl 34 _ _ rfl u.heap.size r0.toArray rfl rfl 34 ms.toArray REd.out (by rw [List.size_toArray];exact hr0.out) (by rw [List.size_toArray,List.size_toArray,ELEN.out,R0LEN.out]) (Go.all_oneCell_toArray HO0.out) ?_)
     | ((with_reducible show wpList _ _ _ (⟨some 84,_,_,_,_,_⟩::_) _ _);refine wpList_load_mid rfl 34 _ rfl u.heap.size 0 rfl r0 _ REe.out.range Tryz.underlying34 rfl hr0.out ?_))
    obtain ⟨u6,hu6⟩:∃ u6,u6=((((v5.setCell ⟨g,2,none⟩ (.string e.name)).setRow g (plnRow 3 (.slice none 0 0) e.name r1 zeroEL dm (.slice fa l.length fc)).toArray).setRow g (plnRow 3 (.slice none 0 0) e.name r1 r2 dm (.slice fa l.length fc)).toArray).setRow u.heap.size r0.toArray):=⟨_,rfl⟩
    rw [← hu6] at RXe REe RZe HBe ⊢
    clear hu6 s1 s15b s15c s15d s2 sf2 RXb REb RZb RXc REc RZc RXd REd RZd
    refine (hse0.out u6 B N _ hN (Nat.le_trans hB HBe.out.size) (V0.out.below (HBe.out.mono hB))).mono ?_
    rintro e7 v7 ⟨sv,sl,k7,rfl,HO7,hl48,HS7,hb7⟩
    have HB7:=Hd (belowThen HBe.out hb7)
    have RX7:=Hd (RXe.out.then hb7)
    have RZ7:=Hd (RZe.out.then hb7)
    have hgw:=Hd (show g<u6.heap.size from RXe.out.lt)
    have hs7:=Hd (show u6.heap.size≤v7.heap.size from hb7.size)
    clear hb7
    obtain ⟨ad,cp,rfl,hsafe⟩:=sels_own HO7.out (Nat.le_refl _)
    have HSF:=Hd hsafe
    clear hsafe HO7
    cases k7
    ·have HN:=Hd (show planS x=none by rw [HPM.out];exact sel_none (by rw [HS7.out];rfl))
     go_wp2_with ((with_reducible show wpList _ _ _ (⟨none,.store 40 (.tmp 2) (.tmp 100),_,_,_,_⟩::_) _ _);refine wpList_store_at rfl 40 _ _ rfl (w.heap.size+1) 0 zeroPL rfl rfl 40 zeroPL zeroPL RZ7.out sizePLN rfl (Nat.le_refl 55) (zeroP_at w 0 0).one ?_)
     refine bodyPost_ret (results_cell_row2 rfl _ _ (w.heap.size+1) 40 zeroPL.toArray (0,0) _ rfl (RZ7.out.setRow zeroPL) Tryz.underlying40 rfl sizePLN) rfl ?_
     exact PlanR.no h0 HN.out (below_setRow HB7.out (by omega) _)
    ·by_cases hz:sl.length=0
     ·have HN:=Hd (show planS x=none by
       rw [HPM.out]
       exact sel_none (by rw [HS7.out];show okSel (some sl)=none;unfold okSel;rw [Option.bind_some,if_neg (fun g=>by omega)]))
      rw [hz]
      go_wp2_with ((with_reducible show wpList _ _ _ (⟨none,.store 40 (.tmp 2) (.tmp 100),_,_,_,_⟩::_) _ _);refine wpList_store_at rfl 40 _ _ rfl (w.heap.size+1) 0 zeroPL rfl rfl 40 zeroPL zeroPL RZ7.out sizePLN rfl (Nat.le_refl 55) (zeroP_at w 0 0).one ?_)
      refine bodyPost_ret (results_cell_row2 rfl _ _ (w.heap.size+1) 40 zeroPL.toArray (0,0) _ rfl (RZ7.out.setRow zeroPL) Tryz.underlying40 rfl sizePLN) rfl ?_
      exact PlanR.no h0 HN.out (below_setRow HB7.out (by omega) _)
     ·have HN:=Hd (show planS x=some ⟨3,sl,e.name,e.args[1],e.args[2],d⟩ by
       rw [HPM.out,HS7.out,show okSel (if true=true then some sl else none)=some sl by show okSel (some sl)=some sl;unfold okSel;rw [Option.bind_some,if_pos ⟨by omega,hl48⟩]]
       rfl)
      have RX8:=Hd (show RowT 40 (v7.setCell ⟨g,1,none⟩ (.slice ad sl.length cp)) g (plnRow 3 (.slice ad sl.length cp) e.name r1 r2 dm (.slice fa l.length fc)) from RX7.out.set 1 _)
      have RZ8:=Hd (show RowT 40 (v7.setCell ⟨g,1,none⟩ (.slice ad sl.length cp)) (w.heap.size+1) zeroPL from RZ7.out.setOther (by have:=hg1.out;omega) _ _)
      have HB8:=Hd (show Below w.heap.size w (v7.setCell ⟨g,1,none⟩ (.slice ad sl.length cp)) from below_set HB7.out (by have:=hg1.out;omega) _)
      have hpl:((plnRow 3 (.slice ad sl.length cp) e.name r1 r2 dm (.slice fa l.length fc)):List Value).length=55:=plnRow_len _ _ _ _ R1LEN.out R2LEN.out DLEN.out
      have hp1:=Hd (show (Tryz.prog.info? 40).map (·.size)=some ((plnRow 3 (.slice ad sl.length cp) e.name r1 r2 dm (.slice fa l.length fc)):List Value).length by rw [hpl];exact sizePLN)
      have hp2:=Hd (show (Tryz.prog.info? 40).map (·.size)=some ((plnRow 3 (.slice ad sl.length cp) e.name r1 r2 dm (.slice fa l.length fc)):List Value).toArray.size by rw [List.size_toArray,hpl];exact sizePLN)
      have hp3:=Hd (show zeroPL.toArray.size=((plnRow 3 (.slice ad sl.length cp) e.name r1 r2 dm (.slice fa l.length fc)):List Value).toArray.size by show 55=_;rw [List.size_toArray,hpl])
      have hp4:=Hd (show ((plnRow 3 (.slice ad sl.length cp) e.name r1 r2 dm (.slice fa l.length fc)):List Value).toArray.all (·.oneCell')=true from Go.all_oneCell_toArray (plnRow_one rfl HO1.out HO2.out HOD.out rfl))
      clear hpl
      have hz0:((sl.length:Int)==0)=false:=by simpa using hz
      have t1:=RX7.out.cell (plnRow_1 3 (.slice none 0 0) e.name r1 r2 dm (.slice fa l.length fc))
      have tf1:=RX7.out.frozen 1
      have hz8:¬ (48:Int)<(sl.length:Int):=by omega
      go_wp2_with (first
       | ((with_reducible show wpList _ _ _ (⟨some 103,_,_,_,_,_⟩::_) _ _);refine wpList_load_mid rfl 40 _ rfl g 0 rfl (plnRow 3 (.slice ad sl.length cp) e.name r1 r2 dm (.slice fa l.length fc)) _ RX8.out.range Tryz.underlying40 rfl hp1.out ?_)
       | ((with_reducible show wpList _ _ _ (⟨none,.store 40 (.tmp 2) (.tmp 103),_,_,_,_⟩::_) _ _);refine wpList_store_row rfl 40 _ _ rfl (w.heap.size+1) ((plnRow 3 (.slice ad sl.length cp) e.name r1 r2 dm (.slice fa l.length fc)):List Value).toArray rfl rfl 40 zeroPL.toArray RZ8.out hp2.out hp3.out hp4.out ?_))
      refine bodyPost_ret (results_cell_row2 rfl _ _ (w.heap.size+1) 40 ((plnRow 3 (.slice ad sl.length cp) e.name r1 r2 dm (.slice fa l.length fc)):List Value).toArray (0,0) _ rfl (RZ8.out.setRow (plnRow 3 (.slice ad sl.length cp) e.name r1 r2 dm (.slice fa l.length fc))) Tryz.underlying40 rfl hp2.out) rfl ?_
      have HB9:=Hd (show Below w.heap.size w ((v7.setCell ⟨g,1,none⟩ (.slice ad sl.length cp)).setRow (w.heap.size+1) ((plnRow 3 (.slice ad sl.length cp) e.name r1 r2 dm (.slice fa l.length fc)):List Value).toArray) from below_setRow HB8.out (by omega) _)
      refine PlanR.yes h0 HN.out ⟨ad,cp,_,_,_,fa,fc,rfl,hl48,hen,hln,?_,?_,?_,?_,?_⟩ HB9.out
      ·refine HSF.out _ ⟨by rw [setRow_size];simp,fun k h1 _ _=>?_⟩
       have hq:=hgw.out
       have hq1:=hg1.out
       rw [setRow_other _ _ _ _ (by omega),heap_setCell_other _ _ _ _ (by simp;omega)]
      ·exact ExprD.At.mono (Nat.le_trans hB HB9.out.size) _ (V1.out.below (HB9.out.mono hB))
      ·exact ExprD.At.mono (Nat.le_trans hB HB9.out.size) _ (V2.out.below (HB9.out.mono hB))
      ·exact ExprD.At.mono (Nat.le_trans hB HB9.out.size) _ (HDM.out.below (HB9.out.mono hB))
      ·exact FuncsAt.mono (Nat.le_trans hB HB9.out.size) _ (FuncsAt.below (HB9.out.mono hB) _ HA.out)
  ·have eh:=HEH.out
   have hme:=HME.out
   have hbd:=HBD.out
   have hwe:=HWE.out
   have k0:ms[0]?=some (.int .i64 20):=by rw [eh.op,hk]
   have hwe':=wfE_1 (hwe.resolve_left (by omega))
   have hel:=wf_num hwe' (n:=4) (by rw [hk];decide)
   have k15:ms[15]?=some (.slice eaa 4 eac):=by rw [eh.args,hel]
   rw [argN_get (by omega:3<e.args.length)] at ha
   have HPL:=Hd (show planS x=none by
    rw [plan_plain hme hbd (show foldP e=false by unfold foldP;rw [argN_get (by omega:3<e.args.length)];simp [hk,ha])]
    refine sel_none ?_
    rw [show selS 47 e=none from stepS_no (by omega) (by omega) (by omega) (by omega)]
    rfl)
   obtain ⟨be,oe,rfl,hbe,hge⟩:=eh.atArgs.get (by intro h;simp [h] at hel)
   obtain ⟨r3,z3,v3⟩:=hge 3 (by omega)
   obtain ⟨_,_,_,_,_,vh3⟩:=v3.has
   have Z3:=Hd z3
   have K30:=Hd vh3.op
   clear z3 v3 vh3
   have HBE:=Hd hbe
   clear hge hbe hwe'
   clear eh hme hbd hwe
   have RT1:=Hd (RowT.new u 34 ms)
   have RX1:=Hd (RX.out.alloc (.cells ms.toArray 34))
   have RZ1:=Hd (RZ3.out.alloc (.cells ms.toArray 34))
   have HB1:=Hd (belowThen HU.out (belowBox u (.cells ms.toArray 34)))
   have hgb:g<u.heap.size:=RX.out.lt
   have RX3:=Hd (show RowT 40 (u.alloc (.cells ms.toArray 34)) g (plnRow 1 (.slice none 0 0) ⟨#[]⟩ zeroEL zeroEL dm (.slice fa l.length fc)) by rw [HDD.out];exact RX1.out)
   have RE3:=Hd (show RowT 34 (u.alloc (.cells ms.toArray 34)) u.heap.size ms from RT1.out)
   have RZ4:=RZ1
   have HB3:=HB1
   have he9:=HE9.out
   have q0:=RE3.out.cell k0
   have qm:=RX3.out.cell (plnRow_0 1 (.slice none 0 0) ⟨#[]⟩ zeroEL zeroEL dm (.slice fa l.length fc))
   have qmf:=RX3.out.frozen 0
   have RXa:=Hd (show RowT 40 (((u.setCell ⟨g,0,none⟩ (.int .i64 2)).setCell ⟨g,0,none⟩ (.int .i64 3)).alloc (.cells ms.toArray 34)) g (plnRow 3 (.slice none 0 0) ⟨#[]⟩ zeroEL zeroEL dm (.slice fa l.length fc)) from by rw [HDD.out];exact ((RX.out.set 0 _).set 0 _).alloc _)
   have REa:=Hd (show RowT 34 (((u.setCell ⟨g,0,none⟩ (.int .i64 2)).setCell ⟨g,0,none⟩ (.int .i64 3)).alloc (.cells ms.toArray 34)) u.heap.size ms from by have h:=RowT.new ((u.setCell ⟨g,0,none⟩ (.int .i64 2)).setCell ⟨g,0,none⟩ (.int .i64 3)) 34 ms;rw [show ((u.setCell ⟨g,0,none⟩ (.int .i64 2)).setCell ⟨g,0,none⟩ (.int .i64 3)).heap.size=u.heap.size by simp] at h;exact h)
   have RZa:=Hd (show RowT 40 (((u.setCell ⟨g,0,none⟩ (.int .i64 2)).setCell ⟨g,0,none⟩ (.int .i64 3)).alloc (.cells ms.toArray 34)) (w.heap.size+1) zeroPL from ((RZ3.out.setOther (by have:=hg1.out;omega) _ _).setOther (by have:=hg1.out;omega) _ _).alloc _)
   have HBa:=Hd (show Below w.heap.size w (((u.setCell ⟨g,0,none⟩ (.int .i64 2)).setCell ⟨g,0,none⟩ (.int .i64 3)).alloc (.cells ms.toArray 34)) from belowThen (below_set (below_set HU.out (by have:=hg1.out;omega) _) (by have:=hg1.out;omega) _) (belowBox _ _))
   have qa0:=REa.out.cell k0
   have qa15:=REa.out.cell k15
   have qn:=((RX.out.set 0 (.int .i64 2)).alloc (.cells ms.toArray 34)).cell (j:=0) (v:=.int .i64 2) rfl
   have qnf:=((RX.out.set 0 (.int .i64 2)).alloc (.cells ms.toArray 34)).frozen 0
   have qb0:((u.setCell ⟨g,0,none⟩ (.int .i64 2)).alloc (.cells ms.toArray 34)).cell? ⟨u.heap.size,0,none⟩=some (.int .i64 20):=by
    have h:=RowT.new (u.setCell ⟨g,0,none⟩ (.int .i64 2)) 34 ms
    rw [show (u.setCell ⟨g,0,none⟩ (.int .i64 2)).heap.size=u.heap.size by simp] at h
    exact h.cell k0
   have qc3:=Hd (Z3.out.below (HBa.out.mono hB) HBE.out)
   have qd3:(((u.setCell ⟨g,0,none⟩ (.int .i64 2)).setCell ⟨g,0,none⟩ (.int .i64 3)).alloc (.cells ms.toArray 34)).cell? ⟨be,oe+51,none⟩=some (.int .i64 e.args[3].op):=by
    have h:=qc3.out 0 (List.getElem?_eq_some_iff.1 K30.out).1
    rw [K30.out] at h
    exact h
   have q30:(e.args[3].op != 30)=true:=by simpa using ha
   go_wp2_with (first
    | ((with_reducible show wpList _ _ _ (⟨some 20,_,_,_,_,_⟩::_) _ _);refine wpList_load_mid rfl 34 _ rfl w.heap.size 1 rfl ms _ (RG3.out.cells.part HMS.out) Tryz.underlying34 rfl hlm.out ?_)
    | ((with_reducible show wpList _ _ _ (⟨none,.store 34 (.tmp 6) (.tmp 20),_,_,_,_⟩::_) _ _);refine wpList_store_new rfl 34 _ _ rfl zeroEA ms.toArray rfl rfl hlm2.out hlm3.out HOM.out ?_)
    | ((with_reducible show wpList _ _ _ (⟨none,.store 40 (.tmp 2) (.tmp 65),_,_,_,_⟩::_) _ _);refine wpList_store_at rfl 40 _ _ rfl (w.heap.size+1) 0 zeroPL rfl rfl 40 zeroPL zeroPL RZa.out sizePLN rfl (Nat.le_refl 55) (zeroP_at w 0 0).one ?_))
   refine bodyPost_ret (results_cell_row2 rfl _ _ (w.heap.size+1) 40 zeroPL.toArray (0,0) _ rfl (RZa.out.setRow zeroPL) Tryz.underlying40 rfl sizePLN) rfl ?_
   exact PlanR.no h0 HPL.out (below_setRow HBa.out (by omega) _)
 ·have hk1:=hk
  clear hk
  have eh:=HEH.out
  have hme:=HME.out
  have hbd:=HBD.out
  have hwe:=HWE.out
  have k0:ms[0]?=some (.int .i64 e.op):=eh.op
  have e19:(e.op==19)=false:=by simpa using hk1
  have e20:(e.op==20)=false:=by simpa using hk2
  have HPL:=Hd (plan_plain hme hbd (show foldP e=false by unfold foldP;simp [hk1,hk2]))
  clear eh hme hbd hwe
  have RT1:=Hd (RowT.new u 34 ms)
  have RX1:=Hd (RX.out.alloc (.cells ms.toArray 34))
  have RZ1:=Hd (RZ3.out.alloc (.cells ms.toArray 34))
  have HB1:=Hd (belowThen HU.out (belowBox u (.cells ms.toArray 34)))
  have hgb:g<u.heap.size:=RX.out.lt
  have RX3:=Hd (show RowT 40 (u.alloc (.cells ms.toArray 34)) g (plnRow 1 (.slice none 0 0) ⟨#[]⟩ zeroEL zeroEL dm (.slice fa l.length fc)) by rw [HDD.out];exact RX1.out)
  have RE3:=Hd (show RowT 34 (u.alloc (.cells ms.toArray 34)) u.heap.size ms from RT1.out)
  have RZ4:=RZ1
  have HB3:=HB1
  have he9:=HE9.out
  have q0:=RE3.out.cell k0
  go_wp2_with (first
   | ((with_reducible show wpList _ _ _ (⟨some 20,_,_,_,_,_⟩::_) _ _);refine wpList_load_mid rfl 34 _ rfl w.heap.size 1 rfl ms _ (RG3.out.cells.part HMS.out) Tryz.underlying34 rfl hlm.out ?_)
   | ((with_reducible show wpList _ _ _ (⟨none,.store 34 (.tmp 6) (.tmp 20),_,_,_,_⟩::_) _ _);refine wpList_store_new rfl 34 _ _ rfl zeroEA ms.toArray rfl rfl hlm2.out hlm3.out HOM.out ?_)
   | ((with_reducible show wpList _ _ _ (⟨some 84,_,_,_,_,_⟩::_) _ _);refine wpList_load_mid rfl 34 _ rfl u.heap.size 0 rfl ms _ RE3.out.range Tryz.underlying34 rfl hle.out ?_))
  obtain ⟨u3,hu3⟩:∃ u3,u3=(u.alloc (.cells ms.toArray 34)):=⟨_,rfl⟩
  rw [← hu3] at RX3 RE3 RZ4 HB3 ⊢
  clear hu3 q0
  refine (HSEL.out u3 B N _ hN (Nat.le_trans hB HB3.out.size) (HEM.out.below (HB3.out.mono hB))).mono ?_
  rintro e7 v7 ⟨sv,sl,k7,rfl,HO7,hl48,HS7,hb7⟩
  have HB7:=Hd (belowThen HB3.out hb7)
  have RX7:=Hd (RX3.out.then hb7)
  have RZ7:=Hd (RZ4.out.then hb7)
  have hgw:=Hd (show g<u3.heap.size from RX3.out.lt)
  have hs7:=Hd (show u3.heap.size≤v7.heap.size from hb7.size)
  clear hb7
  obtain ⟨ad,cp,rfl,hsafe⟩:=sels_own HO7.out (Nat.le_refl _)
  have HSF:=Hd hsafe
  clear hsafe HO7
  cases k7
  ·have HN:=Hd (show planS x=none by rw [HPL.out];exact sel_none (by rw [HS7.out];rfl))
   go_wp2_with ((with_reducible show wpList _ _ _ (⟨none,.store 40 (.tmp 2) (.tmp 100),_,_,_,_⟩::_) _ _);refine wpList_store_at rfl 40 _ _ rfl (w.heap.size+1) 0 zeroPL rfl rfl 40 zeroPL zeroPL RZ7.out sizePLN rfl (Nat.le_refl 55) (zeroP_at w 0 0).one ?_)
   refine bodyPost_ret (results_cell_row2 rfl _ _ (w.heap.size+1) 40 zeroPL.toArray (0,0) _ rfl (RZ7.out.setRow zeroPL) Tryz.underlying40 rfl sizePLN) rfl ?_
   exact PlanR.no h0 HN.out (below_setRow HB7.out (by omega) _)
  ·by_cases hz:sl.length=0
   ·have HN:=Hd (show planS x=none by
     rw [HPL.out]
     exact sel_none (by rw [HS7.out];show okSel (some sl)=none;unfold okSel;rw [Option.bind_some,if_neg (fun g=>by omega)]))
    rw [hz]
    go_wp2_with ((with_reducible show wpList _ _ _ (⟨none,.store 40 (.tmp 2) (.tmp 100),_,_,_,_⟩::_) _ _);refine wpList_store_at rfl 40 _ _ rfl (w.heap.size+1) 0 zeroPL rfl rfl 40 zeroPL zeroPL RZ7.out sizePLN rfl (Nat.le_refl 55) (zeroP_at w 0 0).one ?_)
    refine bodyPost_ret (results_cell_row2 rfl _ _ (w.heap.size+1) 40 zeroPL.toArray (0,0) _ rfl (RZ7.out.setRow zeroPL) Tryz.underlying40 rfl sizePLN) rfl ?_
    exact PlanR.no h0 HN.out (below_setRow HB7.out (by omega) _)
   ·have HN:=Hd (show planS x=some ⟨1,sl,⟨#[]⟩,zeroE,zeroE,d⟩ by
     rw [HPL.out,HS7.out,show okSel (if true=true then some sl else none)=some sl by show okSel (some sl)=some sl;unfold okSel;rw [Option.bind_some,if_pos ⟨by omega,hl48⟩]]
     rfl)
    have RX8:=Hd (show RowT 40 (v7.setCell ⟨g,1,none⟩ (.slice ad sl.length cp)) g (plnRow 1 (.slice ad sl.length cp) ⟨#[]⟩ zeroEL zeroEL dm (.slice fa l.length fc)) from RX7.out.set 1 _)
    have RZ8:=Hd (show RowT 40 (v7.setCell ⟨g,1,none⟩ (.slice ad sl.length cp)) (w.heap.size+1) zeroPL from RZ7.out.setOther (by have:=hg1.out;omega) _ _)
    have HB8:=Hd (show Below w.heap.size w (v7.setCell ⟨g,1,none⟩ (.slice ad sl.length cp)) from below_set HB7.out (by have:=hg1.out;omega) _)
    have hpl:((plnRow 1 (.slice ad sl.length cp) ⟨#[]⟩ zeroEL zeroEL dm (.slice fa l.length fc)):List Value).length=55:=plnRow_len _ _ _ _ rfl rfl DLEN.out
    have hp1:=Hd (show (Tryz.prog.info? 40).map (·.size)=some ((plnRow 1 (.slice ad sl.length cp) ⟨#[]⟩ zeroEL zeroEL dm (.slice fa l.length fc)):List Value).length by rw [hpl];exact sizePLN)
    have hp2:=Hd (show (Tryz.prog.info? 40).map (·.size)=some ((plnRow 1 (.slice ad sl.length cp) ⟨#[]⟩ zeroEL zeroEL dm (.slice fa l.length fc)):List Value).toArray.size by rw [List.size_toArray,hpl];exact sizePLN)
    have hp3:=Hd (show zeroPL.toArray.size=((plnRow 1 (.slice ad sl.length cp) ⟨#[]⟩ zeroEL zeroEL dm (.slice fa l.length fc)):List Value).toArray.size by show 55=_;rw [List.size_toArray,hpl])
    have hp4:=Hd (show ((plnRow 1 (.slice ad sl.length cp) ⟨#[]⟩ zeroEL zeroEL dm (.slice fa l.length fc)):List Value).toArray.all (·.oneCell')=true from Go.all_oneCell_toArray (plnRow_one rfl (zeroE_at w 0 0).one (zeroE_at w 0 0).one HOD.out rfl))
    clear hpl
    have hz0:((sl.length:Int)==0)=false:=by simpa using hz
    have t1:=RX7.out.cell (plnRow_1 1 (.slice none 0 0) ⟨#[]⟩ zeroEL zeroEL dm (.slice fa l.length fc))
    have tf1:=RX7.out.frozen 1
    have hz8:¬ (48:Int)<(sl.length:Int):=by omega
    go_wp2_with (first
     | ((with_reducible show wpList _ _ _ (⟨some 103,_,_,_,_,_⟩::_) _ _);refine wpList_load_mid rfl 40 _ rfl g 0 rfl (plnRow 1 (.slice ad sl.length cp) ⟨#[]⟩ zeroEL zeroEL dm (.slice fa l.length fc)) _ RX8.out.range Tryz.underlying40 rfl hp1.out ?_)
     | ((with_reducible show wpList _ _ _ (⟨none,.store 40 (.tmp 2) (.tmp 103),_,_,_,_⟩::_) _ _);refine wpList_store_row rfl 40 _ _ rfl (w.heap.size+1) ((plnRow 1 (.slice ad sl.length cp) ⟨#[]⟩ zeroEL zeroEL dm (.slice fa l.length fc)):List Value).toArray rfl rfl 40 zeroPL.toArray RZ8.out hp2.out hp3.out hp4.out ?_))
    refine bodyPost_ret (results_cell_row2 rfl _ _ (w.heap.size+1) 40 ((plnRow 1 (.slice ad sl.length cp) ⟨#[]⟩ zeroEL zeroEL dm (.slice fa l.length fc)):List Value).toArray (0,0) _ rfl (RZ8.out.setRow (plnRow 1 (.slice ad sl.length cp) ⟨#[]⟩ zeroEL zeroEL dm (.slice fa l.length fc))) Tryz.underlying40 rfl hp2.out) rfl ?_
    have HB9:=Hd (show Below w.heap.size w ((v7.setCell ⟨g,1,none⟩ (.slice ad sl.length cp)).setRow (w.heap.size+1) ((plnRow 1 (.slice ad sl.length cp) ⟨#[]⟩ zeroEL zeroEL dm (.slice fa l.length fc)):List Value).toArray) from below_setRow HB8.out (by omega) _)
    refine PlanR.yes h0 HN.out ⟨ad,cp,_,_,_,fa,fc,rfl,hl48,(show (0:Nat)≤N by omega),hln,?_,?_,?_,?_,?_⟩ HB9.out
    ·refine HSF.out _ ⟨by rw [setRow_size];simp,fun k h1 _ _=>?_⟩
     have hq:=hgw.out
     have hq1:=hg1.out
     rw [setRow_other _ _ _ _ (by omega),heap_setCell_other _ _ _ _ (by simp;omega)]
    ·exact zeroE_at _ _ _
    ·exact zeroE_at _ _ _
    ·exact ExprD.At.mono (Nat.le_trans hB HB9.out.size) _ (HDM.out.below (HB9.out.mono hB))
    ·exact FuncsAt.mono (Nat.le_trans hB HB9.out.size) _ (FuncsAt.below (HB9.out.mono hB) _ HA.out)
end Go.Proofs.YticpebgjbfanpaaGreatDoor
