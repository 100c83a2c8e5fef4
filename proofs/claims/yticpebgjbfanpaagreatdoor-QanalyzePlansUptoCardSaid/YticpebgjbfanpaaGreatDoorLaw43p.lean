/- The law QanalyzePlans: it says yes. -/
import Derived.Test.YticpebgjbfanpaaGreatDoorGA
import Derived.Test.YticpebgjbfanpaaGreatDoorPpl43
import Derived.Test.YticpebgjbfanpaaGreatDoorRpl43b
import Derived.Test.YticpebgjbfanpaaGreatDoorHL
namespace Go.Proofs.YticpebgjbfanpaaGreatDoor
open Go.RowKit
theorem fold_len {e:ExprD} (hw:wf1 e) (h:e.op=19∨e.op=20):2<e.args.length:=by
 rcases h with h | h
 ·have:=wf_num hw (n:=3) (by rw [h];decide)
  omega
 ·have:=wf_num hw (n:=4) (by rw [h];decide)
  omega
theorem sam_parts {x e b:ExprD} {d:PlnD} {m:Nat} (h:planS x=some d) (he:mainP x=e) (hb:bodyP x=b) (hd:dpE (m+1) e) (hw:e.op=30∨wf1 e) (hs:SamX b):SamX d.init∧SamX d.upd∧SamX d.body:=by
 by_cases hf:foldP e=true
 ·have ho:e.op=19∨e.op=20:=by
   have:=of_decide_eq_true hf
   omega
  have hl:=fold_len (hw.resolve_left (by omega)) ho
  rw [plan_fold he hb hf hl] at h
  split at h
  ·cases h
  ·cases hk:okSel (selS 47 e.args[0]) with
   | none=>rw [hk] at h;cases h
   | some s =>
     rw [hk] at h
     cases h
     exact ⟨same_all m _ (dp_arg hd 1 (by omega)),same_all m _ (dp_arg hd 2 (by omega)),hs⟩
 ·rw [plan_plain he hb (by simpa using hf)] at h
  cases hk:okSel (selS 47 e) with
  | none=>rw [hk] at h;cases h
  | some s =>
    rw [hk] at h
    cases h
    exact ⟨same_all 0 _ dp_zero,same_all 0 _ dp_zero,hs⟩
theorem sam_plan {x:ExprD} {d:PlnD} (h:planS x=some d) (hd:dpE 47 x) (hw:wfE 47 x):SamX d.init∧SamX d.upd∧SamX d.body:=by
 by_cases h9:x.op=9
 ·have hl:=wf_num (wfE_1 hw) (n:=2) (by rw [h9];decide)
  refine sam_parts (m:=45) h (mainP_pipe h9 (by omega)) (bodyP_pipe h9 (by omega)) (dp_arg (m:=46) hd 0 (by omega)) ?_ (same_all 46 _ (dp_arg (m:=46) hd 1 (by omega)))
  rcases wf_kid hw (show 0<x.args.length by omega) with h | ⟨m',_,h⟩
  ·exact .inl h
  ·exact .inr (wfE_1 h)
 ·exact sam_parts (m:=46) h (mainP_no h9) (bodyP_no h9) hd (.inr (wfE_1 hw)) (same_all 0 _ dp_ident)
theorem sam_res (l:List FuncD) (x:ExprD):SamX (planRes l x).init∧SamX (planRes l x).upd∧SamX (planRes l x).body∧SamF (planFs l x):=by
 have hz:=same_all 0 _ dp_zero
 have hn:SamF []:=same_fns (m:=0) (fun _ h=>by cases h)
 by_cases h:prgE l x=0
 ·unfold planRes planFs
  rw [if_neg (fun g=>g h),if_neg (fun g=>g h)]
  have hm:=prg_main h
  cases hk:planS x with
  | none=>rw [if_pos rfl];exact ⟨hz,hz,hz,hn⟩
  | some d =>
    rw [if_neg (by simp)]
    obtain ⟨h1,h2,h3⟩:=sam_plan hk (err_size hm).1 (err_wf hm)
    exact ⟨h1,h2,h3,same_fns (prg_funcs h)⟩
 ·unfold planRes planFs
  rw [if_pos h,if_pos h]
  exact ⟨hz,hz,hz,hn⟩
set_option maxRecDepth 100000 in
set_option maxHeartbeats 3200000 in
theorem stream43 (l:List FuncD) (x:ExprD) (fa:Option Addr) (fc:Nat) (ms cs:List Value) (w:World) (B N:Nat) (hN:N≤1048576) (h4:4≤B) (hB:B≤w.heap.size) (hE:Env w) (hT:TabAt w) (hsl:smlF l) (hsx:smlE x) (hln:l.length≤N) (hA:FuncsAt w B N l fa) (hx:ExprD.At w B N x ms) (hcs:cs=.slice fa l.length fc::ms) :
 Calls Tryz.prog 9 #[.agg cs.toArray] w (BoolB (decide (planErr l x=0)) w):=by
 have hlc:=Hd (show (Tryz.prog.info? 36).map (·.size)=some cs.length by rw [hcs,List.length_cons,hx.len];exact sizePRG)
 have HCS:=Hd hcs
 have B0:=Hd (belowBox w (.cells cs.toArray 36))
 have R0:=Hd (RowT.new w 36 cs)
 have HE:=Hd (hE.then B0.out)
 have HT:=Hd (hT.below B0.out)
 have HA:=Hd (FuncsAt.below (B0.out.mono hB) _ hA)
 have HX:=Hd (hx.below (B0.out.mono hB))
 have HL:=Hd hsl
 have HS:=Hd hsx
 clear hcs hE hT hsl hsx hA hx
 go_enter Tryz.func9,Tryz.ntmps9
 go_wp2_with ((with_reducible show wpList _ _ _ (⟨some 6,_,_,_,_,_⟩::_) _ _);refine wpList_load_mid rfl 36 _ rfl w.heap.size 0 rfl cs _ R0.out.range Tryz.underlying36 rfl hlc.out ?_)
 refine (plan_p l x fa fc ms cs _ B N hN h4 (Nat.le_trans hB B0.out.size) HE.out HT.out HL.out HS.out hln HA.out HX.out HCS.out).mono ?_
 rintro e w1 ⟨ps,k,rfl,hk,hp,hb1⟩
 have H1:=Hd (belowThen B0.out hb1)
 have HK:=Hd hk.out
 have hf:=hp.out.len
 have hl2:=Hd (show (Tryz.prog.info? 40).map (·.size)=some ps.toArray.size by rw [List.size_toArray,hf];exact sizePLN)
 have hl3:=Hd (show zeroPL.toArray.size=ps.toArray.size by show 55=_;rw [List.size_toArray,hf])
 have hone:=Hd (show ps.toArray.all (·.oneCell')=true from Go.all_oneCell_toArray hp.out.one)
 clear hb1 hk hp hf
 have H2:=Hd (belowThen H1.out (belowBox w1 (.cells ps.toArray 40)))
 go_wp2_with ((with_reducible show wpList _ _ _ (⟨none,.store 40 (.tmp 3) (.tmp 8),_,_,_,_⟩::_) _ _);refine wpList_store_new rfl 40 _ _ rfl zeroPL.toArray ps.toArray rfl rfl hl2.out hl3.out hone.out ?_)
 go_ret
 exact ⟨by rw [← HK.out];rfl,H2.out⟩
def YesL (w:World) (e:Ending) (w':World):Prop:=e=.returned (.bool true)∧Below w.heap.size w w'
set_option maxRecDepth 100000 in
set_option maxHeartbeats 6400000 in
theorem plans43 (l:List FuncD) (x:ExprD) (fa:Option Addr) (fc:Nat) (ms cs:List Value) (w:World) (N:Nat) (hN:N≤1048576) (hN1:1≤N) (h4:4≤w.heap.size) (hE:Env w) (hT:TabAt w) (hl:l.length≤N) (hA:FuncsAt w w.heap.size N l fa) (hx:ExprD.At w w.heap.size N x ms) (hcs:cs=.slice fa l.length fc::ms) :
 Calls Tryz.prog 3 #[.agg cs.toArray] w (YesL w):=by
 have HX:=Hd hx
 have HA:=Hd hA
 have HE:=Hd hE
 have HT:=Hd hT
 have HCS:=Hd hcs
 have c0:cs[0]?=some (.slice fa l.length fc):=by rw [hcs];rfl
 have hml:ms.length=17:=hx.len
 have HMS:=Hd (show (cs.drop 1).take 17=ms by rw [hcs];exact List.take_of_length_le (show ms.length≤17 by omega))
 have hlp:=Hd (show (Tryz.prog.info? 36).map (·.size)=some cs.length by rw [hcs,List.length_cons,hml];exact sizePRG)
 have hlm:=Hd (show (Tryz.prog.info? 34).map (·.size)=some ms.length by rw [hml];exact sizeE)
 have hfz:=fold_zip0 ms zE0 hml.symm
 have R0:=Hd (RowT.new w 36 cs)
 have HSAM:=Hd (sam_res l x)
 have B1:=Hd (show Below w.heap.size w ((w.alloc (.cells cs.toArray 36)).alloc (.cells ms.toArray 34)) from belowThen (belowBox w _) (belowBox _ _))
 have R1:=Hd (R0.out.alloc (.cells ms.toArray 34))
 have M1:=Hd (show CellsAt ((w.alloc (.cells cs.toArray 36)).alloc (.cells ms.toArray 34)) (w.heap.size+1) 0 ms from by
  have h:=(RowT.new (w.alloc (.cells cs.toArray 36)) 34 ms).cells
  rwa [World.size_alloc] at h)
 obtain ⟨w1,hw1⟩:∃ w1,w1=(w.alloc (.cells cs.toArray 36)).alloc (.cells ms.toArray 34):=⟨_,rfl⟩
 have HS1:=Hd (show w1.heap.size=w.heap.size+2 by rw [hw1,World.size_alloc,World.size_alloc])
 rw [← hw1] at B1 R1 M1
 have HW:=Hd hw1
 clear hx hA hE hT hcs hw1
 go_enter Tryz.func3,Tryz.ntmps3
 go_wp2_with ((with_reducible show wpList _ _ _ (⟨some 10,_,_,_,_,_⟩::_) _ _);refine wpList_load_mid rfl 34 _ rfl w.heap.size 1 rfl ms _ (R0.out.cells.part HMS.out) Tryz.underlying34 rfl hlm.out ?_)
 rw [← HW.out]
 refine (few43 l x fa fc w1 w1.heap.size N (w.heap.size+1) 1 ms hN hN1 hl (Nat.le_refl _) (by have:=HS1.out;omega) M1.out (FuncsAt.mono B1.out.size _ (FuncsAt.below B1.out _ HA.out)) (ExprD.At.mono B1.out.size _ (HX.out.below B1.out))).mono ?_
 rintro e w2 ⟨k,rfl,HK,hb2⟩
 have B2:=Hd (belowThen B1.out hb2)
 have R2:=Hd (R1.out.then hb2)
 clear hb2 hfz HW
 cases k
 ·go_wp2_with fail
  go_ret
  exact ⟨rfl,B2.out⟩
 have HSM:=Hd (HK.out rfl)
 go_wp2_with ((with_reducible show wpList _ _ _ (⟨some 15,_,_,_,_,_⟩::_) _ _);refine wpList_load_mid rfl 36 _ rfl w.heap.size 0 rfl cs _ R2.out.range Tryz.underlying36 rfl hlp.out ?_)
 refine (plan_p l x fa fc ms cs w2 w.heap.size N hN h4 B2.out.size (HE.out.then B2.out) (HT.out.below B2.out) HSM.out.1 HSM.out.2 hl (FuncsAt.below B2.out _ HA.out) (HX.out.below B2.out) HCS.out).mono ?_
 rintro e w3 ⟨ps,kp,rfl,hkp,hpp,hb3⟩
 have B3:=Hd (belowThen B2.out hb3)
 have R3:=Hd (R2.out.then hb3)
 have P3:=Hd hpp.out
 have hpl:=hpp.out.len
 have hp2:=Hd (show (Tryz.prog.info? 40).map (·.size)=some ps.toArray.size by rw [List.size_toArray,hpl];exact sizePLN)
 have hp3:=Hd (show zeroPL.toArray.size=ps.toArray.size by show 55=_;rw [List.size_toArray,hpl])
 have hp1:=Hd (show (Tryz.prog.info? 40).map (·.size)=some ps.length by rw [hpl];exact sizePLN)
 have hpo:=Hd (show ps.toArray.all (·.oneCell')=true from Go.all_oneCell_toArray hpp.out.one)
 obtain rfl:kp=planErr l x:=hkp.out
 generalize hZ:planErr l x=z at *
 have HZ:=Hd hZ
 clear hb3 hkp hpp hpl hZ
 have R4:=Hd (R3.out.alloc (.cells ps.toArray 40))
 go_wp2_with (first
  | ((with_reducible show wpList _ _ _ (⟨none,.store 40 (.tmp 3) (.tmp 17),_,_,_,_⟩::_) _ _);refine wpList_store_new rfl 40 _ _ rfl zeroPL.toArray ps.toArray rfl rfl hp2.out hp3.out hpo.out ?_)
  | ((with_reducible show wpList _ _ _ (⟨some 20,_,_,_,_,_⟩::_) _ _);refine wpList_load_mid rfl 36 _ rfl w.heap.size 0 rfl cs _ R4.out.range Tryz.underlying36 rfl hlp.out ?_))
 have B4:=Hd (belowThen B3.out (belowBox w3 (.cells ps.toArray 40)))
 have P4:=Hd (P3.out.below (belowBox w3 (.cells ps.toArray 40)))
 have T4:=Hd (RowT.new w3 40 ps)
 refine (plan_r l x fa fc ms cs _ w.heap.size N hN B4.out.size (HT.out.below B4.out) hl (FuncsAt.below B4.out _ HA.out) (HX.out.below B4.out) HCS.out).mono ?_
 rintro e w5 ⟨qs,kq,rfl,hkq,hqq,hb5⟩
 have B5:=Hd (belowThen B4.out hb5)
 have R5:=Hd (R4.out.then hb5)
 have T5:=Hd (T4.out.then hb5)
 have P5:=Hd ((P4.out.mono (Nat.le_of_lt (by rw [World.size_alloc];omega))).below hb5)
 have hs5:(w3.alloc (.cells ps.toArray 40)).heap.size≤w5.heap.size:=hb5.size
 have Q5:=Hd hqq.out
 have hql:=hqq.out.len
 have hq2:=Hd (show (Tryz.prog.info? 40).map (·.size)=some qs.toArray.size by rw [List.size_toArray,hql];exact sizePLN)
 have hq3:=Hd (show zeroPL.toArray.size=qs.toArray.size by show 55=_;rw [List.size_toArray,hql])
 have hq1:=Hd (show (Tryz.prog.info? 40).map (·.size)=some qs.length by rw [hql];exact sizePLN)
 have hqo:=Hd (show qs.toArray.all (·.oneCell')=true from Go.all_oneCell_toArray hqq.out.one)
 obtain rfl:kq=z:=by rw [← HZ.out];exact hkq.out
 clear hb5 hkq hqq hql
 have B6:=Hd (belowThen B5.out (belowBox w5 (.cells qs.toArray 40)))
 have P6:=Hd (((P5.out.mono hs5).below (belowBox w5 (.cells qs.toArray 40))).mono (show w5.heap.size≤(w5.alloc (.cells qs.toArray 40)).heap.size by rw [World.size_alloc];omega))
 have Q6:=Hd ((Q5.out.below (belowBox w5 (.cells qs.toArray 40))).mono (show w5.heap.size≤(w5.alloc (.cells qs.toArray 40)).heap.size by rw [World.size_alloc];omega))
 have T6:=Hd (T5.out.alloc (.cells qs.toArray 40))
 have U6:=Hd (RowT.new w5 40 qs)
 have R6:=Hd (R5.out.alloc (.cells qs.toArray 40))
 clear hs5
 go_wp2_with (first
  | ((with_reducible show wpList _ _ _ (⟨none,.store 40 (.tmp 5) (.tmp 22),_,_,_,_⟩::_) _ _);refine wpList_store_new rfl 40 _ _ rfl zeroPL.toArray qs.toArray rfl rfl hq2.out hq3.out hqo.out ?_)
  | ((with_reducible show wpList _ _ _ (⟨some 28,_,_,_,_,_⟩::_) _ _);refine wpList_load_mid_f rfl 40 _ rfl w3.heap.size 0 rfl ps _ T6.out.range Tryz.underlying40 rfl hp1.out ?_)
  | ((with_reducible show wpList _ _ _ (⟨some 29,_,_,_,_,_⟩::_) _ _);refine wpList_load_mid_f rfl 40 _ rfl w5.heap.size 0 rfl qs _ U6.out.range Tryz.underlying40 rfl hq1.out ?_))
 refine (same43 (planRes l x) (planFs l x) HSAM.out.1 HSAM.out.2.1 HSAM.out.2.2.1 HSAM.out.2.2.2 _ _ N ps qs hN (Nat.le_refl _) P6.out Q6.out).mono ?_
 rintro e w7 ⟨rfl,hb7⟩
 have B7:=Hd (belowThen B6.out hb7)
 have R7:=Hd (R6.out.then hb7)
 clear hb7
 go_wp2_with ((with_reducible show wpList _ _ _ (⟨some 33,_,_,_,_,_⟩::_) _ _);refine wpList_load_mid_f rfl 36 _ rfl w.heap.size 0 rfl cs _ R7.out.range Tryz.underlying36 rfl hlp.out ?_)
 refine (stream43 l x fa fc ms cs w7 w.heap.size N hN h4 B7.out.size (HE.out.then B7.out) (HT.out.below B7.out) HSM.out.1 HSM.out.2 hl (FuncsAt.below B7.out _ HA.out) (HX.out.below B7.out) HCS.out).mono ?_
 rintro e w8 ⟨rfl,hb8⟩
 have B8:=Hd (belowThen B7.out hb8)
 rw [HZ.out]
 clear hb8
 by_cases hz:kq=0
 ·subst hz
  go_wp2_with fail
  go_ret
  exact ⟨rfl,B8.out⟩
 ·have e0:(kq==0)=false:=by simpa using hz
  have d0:decide (kq=0)=false:=by simpa using hz
  rw [d0]
  go_wp2_with fail
  go_ret
  exact ⟨rfl,B8.out⟩
end Go.Proofs.YticpebgjbfanpaaGreatDoor
