/- The check of a module: the program's and the reference's (printed by genmck36.py). -/
import Derived.Test.YtiefeajappjnbaaGreatDoorGA
import Derived.Test.YtiefeajappjnbaaGreatDoorMop36
import Derived.Test.YtiefeajappjnbaaGreatDoorMD
namespace Go.Proofs.YtiefeajappjnbaaGreatDoor
open Go.RowKit
theorem size_nil {a:ByteArray} (h:a.toList=[]):a.size=0:=by
 rw [ByteArray.toList_eq] at h
 show a.data.size=0
 rw [← Array.length_toList,h];rfl
set_option maxRecDepth 100000 in
set_option maxHeartbeats 12800000 in
theorem module_p (m:ModD) (w:World) (B N:Nat) (cs:List Value) (hN:N≤1048576) (h4:4≤B) (hB:B≤w.heap.size) (hE:Env w) (hsf:smlF m.funcs) (hsm:absB m.main=false→smlE m.main) (hm:ModD.At w B N m cs):Calls Tryz.prog 25 #[.agg cs.toArray] w (IntB (modE m) w):=by
 obtain ⟨ia,fa,ic,fc,es,hh⟩:=hm
 have HE:=Hd hE
 have HSF:=Hd hsf
 have HSM:=Hd hsm
 obtain ⟨nm,hnm⟩:∃ nm,m.name=nm:=⟨_,rfl⟩
 have HNM:=Hd hnm
 obtain ⟨l,hl⟩:∃ l,m.imps=l:=⟨_,rfl⟩
 have HL:=Hd hl
 obtain ⟨fs,hfs⟩:∃ fs,m.funcs=fs:=⟨_,rfl⟩
 have HFS:=Hd hfs
 have HC0:=Hd (show cs[0]?=some (.string nm) by rw [hh.cs,← hnm];rfl)
 have HC1:=Hd (show cs[1]?=some (.slice ia l.length ic) by rw [hh.cs,← hl];rfl)
 have HC2:=Hd (show cs[2]?=some (.slice fa fs.length fc) by rw [hh.cs,← hfs];rfl)
 have HES:=Hd hh.main
 have HIA:=Hd (show ImpsAt w B N l ia by rw [← hl];exact hh.atImp)
 have HFA:=Hd (show FuncsAt w B N fs fa by rw [← hfs];exact hh.atFun)
 have HMA:=Hd hh.atMain
 have hle:=Hd (show (Tryz.prog.info? 34).map (·.size)=some es.length by rw [hh.atMain.len];kernel_rfl)
 have zn:nm.size≤1048576:=by rw [← hnm];exact Nat.le_trans hh.hn hN
 have R0:=Hd (RowT.new w 44 cs)
 have H0:=Hd (belowBox w (.cells cs.toArray 44))
 have e0:=R0.out.cell HC0.out
 have e1:=R0.out.cell HC1.out
 have e2:=R0.out.cell HC2.out
 rw [HFS.out] at HSF
 clear hh hnm hl hfs hE hsf hsm
 go_enter Tryz.func25,Tryz.ntmps25
 go_wp2_with fail
 refine (identP nm _ (by unfold maxLen;omega) (HE.out.then H0.out).kw).mono ?_
 rintro e w' ⟨rfl,rfl⟩
 obtain ⟨ib,hib⟩:∃ v,identB nm=v:=⟨_,rfl⟩
 have HI:=Hd (show identB m.name=ib by rw [HNM.out];exact hib)
 rw [hib]
 clear hib
 cases ib
 ·go_wp2_with fail
  go_ret
  exact int_ret (modE_n HI.out) H0.out
 by_cases hbig:16<l.length
 ·have HR:=Hd (modE_s HI.out (by rw [HL.out];exact hbig))
  go_wp2_with fail
  go_ret
  exact int_ret HR.out H0.out
 have HBG:=Hd (show ¬ 16<m.imps.length by rw [HL.out];exact hbig)
 go_wp2_with fail
 go_simp
 go_loopw [17] (fun i wr=>∃ k:Nat,k≤l.length∧i=.int .i64 k∧Hid (∀ j (hj:j<l.length),j<k→impB l[j]=true)∧Hid (RowT 44 wr w.heap.size cs)∧Hid (Below w.heap.size w wr)) (fun i _=>l.length-(intOf i).toNat)
 case atStart=>exact ⟨0,by omega,rfl,Hd (fun j _ hj=>absurd hj (by omega)),R0,H0⟩
 case round =>
  clear e0 e1 e2 R0
  obtain ⟨w1,rfl⟩:∃ w1,w1=wr:=⟨wr,rfl⟩
  obtain ⟨k,hk,rfl,HOK,HRr,HBr⟩:=hrel
  have e1:=HRr.out.cell HC1.out
  have e2:=HRr.out.cell HC2.out
  by_cases hlt:k<l.length
  case neg =>
   have HIM:=Hd (show m.imps.all impB=true by rw [HL.out];exact imps_all (fun j hj=>HOK.out j hj (by omega)))
   have HMF:=Hd (modE_f HI.out HBG.out HIM.out)
   rw [HFS.out] at HMF
   have HB9:=Hd (show B≤w1.heap.size from Nat.le_trans hB HBr.out.size)
   go_wp2_with fail
   refine (functions_c fs fa fc _ B N (by omega) h4 HB9.out (HE.out.then HBr.out) HSF.out (FuncsAt.below (HBr.out.mono hB) _ HFA.out)).mono ?_
   rintro e w2 ⟨rfl,hb2⟩
   have H2:=Hd (belowThen HBr.out hb2)
   have R2:=Hd (HRr.out.then hb2)
   clear hb2
   obtain ⟨z,hz⟩:∃ z,fnO fs=z:=⟨_,rfl⟩
   have HZ:=Hd hz
   rw [hz] at HMF ⊢
   clear hz
   by_cases h0:z=0
   case neg =>
    have HR:=Hd (show modE m=z by rw [HMF.out,if_pos h0])
    have n1:(z==0)=false:=by simpa using h0
    have n2:(z != 0)=true:=by simpa using h0
    clear h0
    go_wp2_with fail
    go_ret
    exact int_ret HR.out H2.out
   subst h0
   have HM2:=Hd (show modE m=if absB m.main=true then 0 else errE m.main by rw [HMF.out,if_neg (by simp)])
   go_wp2_with ((with_reducible show wpList _ _ _ (⟨some 44,_,_,_,_,_⟩::_) _ _);refine wpList_load_mid rfl 34 _ rfl w.heap.size 3 rfl es _ (R2.out.cells.partU HES.out) Tryz.underlying34 rfl hle.out ?_)
   refine (absent_p m.main _ B N es (Nat.le_trans hB H2.out.size) (HMA.out.below (H2.out.mono hB))).mono ?_
   rintro e w3 ⟨rfl,hb3⟩
   have H3:=Hd (belowThen H2.out hb3)
   have R3:=Hd (R2.out.then hb3)
   clear hb3
   cases hab:absB m.main
   case true =>
    have HR:=Hd (show modE m=0 by rw [HM2.out,if_pos hab])
    clear hab
    go_wp2_with fail
    go_ret
    exact int_ret HR.out H3.out
   have HR:=Hd (show modE m=errE m.main by rw [HM2.out,if_neg (by rw [hab];simp)])
   have HSS:=Hd (HSM.out hab)
   clear hab
   go_wp2_with ((with_reducible show wpList _ _ _ (⟨some 47,_,_,_,_,_⟩::_) _ _);refine wpList_load_mid rfl 34 _ rfl w.heap.size 3 rfl es _ (R3.out.cells.partU HES.out) Tryz.underlying34 rfl hle.out ?_)
   refine (check_p m.main _ B N es (by omega) h4 (Nat.le_trans hB H3.out.size) (HE.out.then H3.out) HSS.out (HMA.out.below (H3.out.mono hB))).mono ?_
   rintro e w4 ⟨rfl,hb4⟩
   have H4:=Hd (belowThen H3.out hb4)
   clear hb4
   go_wp2_with fail
   go_ret
   exact int_ret HR.out H4.out
  obtain ⟨b,o,rfl,hb,hget⟩:=HIA.out.get (by intro h;rw [h] at hlt;simp at hlt)
  obtain ⟨⟨z1,z2⟩,g1⟩:=hget k hlt
  obtain ⟨p,hp⟩:∃ p,l[k]=p:=⟨_,rfl⟩
  have HP:=Hd hp
  rw [hp] at g1 z1 z2
  obtain ⟨i1,i2⟩:=p
  replace z1:i1.size≤N:=z1
  replace z2:i2.size≤N:=z2
  have zi1:=Hd (show i1.size≤maxLen by unfold maxLen;omega)
  have zi2:=Hd (show i2.size≤maxLen by unfold maxLen;omega)
  have HG:=Hd (g1.below (HBr.out.mono hB) hb)
  have hl1:=Hd (show (Tryz.prog.info? 78).map (·.size)=some (impC (i1,i2)).length by kernel_rfl)
  have hl2:=Hd (show (Tryz.prog.info? 78).map (·.size)=some (impC (i1,i2)).toArray.size by kernel_rfl)
  have h2:=Hd (show 2=(impC (i1,i2)).toArray.size by rfl)
  have hone:=Hd (show (impC (i1,i2)).toArray.all (·.oneCell')=true from Go.all_oneCell_toArray (by intro u hu;simp [impC] at hu;rcases hu with rfl | rfl<;>rfl))
  have HB1:=Hd (show Below w.heap.size w (w1.alloc (.cells (impC (i1,i2)).toArray 78)) from belowThen HBr.out (belowBox w1 _))
  have HR1:=Hd (HRr.out.alloc (.cells (impC (i1,i2)).toArray 78))
  have HBX:=Hd (RowT.new w1 78 (impC (i1,i2)))
  have d0:=HBX.out.cell (j:=0) (v:=.string i1) rfl
  have d1:=HBX.out.cell (j:=1) (v:=.string i2) rfl
  have HEW:=Hd (HE.out.then HB1.out)
  obtain ⟨b1,hb1⟩:∃ v,identB i1=v:=⟨_,rfl⟩
  have HI1:=Hd (show identB l[k].1=b1 by rw [HP.out];exact hb1)
  obtain ⟨b2,hb2⟩:∃ v,identB i2=v:=⟨_,rfl⟩
  have HI2:=Hd (show identB l[k].2=b2 by rw [HP.out];exact hb2)
  have HJ1:=Hd hb1
  have HJ2:=Hd hb2
  have HS2:=Hd (show l[k].2.size=i2.size by rw [HP.out])
  clear g1 hget hp hb1 hb2
  cases b1
  ·have HR:=Hd (modE_i HI.out HBG.out (by rw [HL.out];exact imps_bad hlt (imp_bad1 HI1.out)))
   go_wp2_with (first
    | ((with_reducible show wpList _ _ _ (⟨some 20,_,_,_,_,_⟩::_) _ _);refine wpList_load_mid rfl 78 _ rfl b (o+k * 2) rfl (impC (i1,i2)) _ HG.out.range Tryz.underlying78 rfl hl1.out ?_)
    | ((with_reducible show wpList _ _ _ (⟨none,.store 78 (.tmp 4) (.tmp 20),_,_,_,_⟩::_) _ _);refine wpList_store_new rfl 78 _ _ rfl _ (impC (i1,i2)).toArray rfl rfl hl2.out h2.out hone.out ?_))
   refine (identP i1 _ zi1.out (HEW.out).kw).mono ?_
   rintro e w' ⟨rfl,rfl⟩
   rw [HJ1.out]
   go_wp2_with fail
   go_ret
   exact int_ret HR.out HB1.out
  by_cases he:i2.toList=[]
  ·have HOK2:=Hd (imp_ok0 HI1.out (by rw [HS2.out];exact size_nil he))
   go_wp2_with (first
    | ((with_reducible show wpList _ _ _ (⟨some 20,_,_,_,_,_⟩::_) _ _);refine wpList_load_mid rfl 78 _ rfl b (o+k * 2) rfl (impC (i1,i2)) _ HG.out.range Tryz.underlying78 rfl hl1.out ?_)
    | ((with_reducible show wpList _ _ _ (⟨none,.store 78 (.tmp 4) (.tmp 20),_,_,_,_⟩::_) _ _);refine wpList_store_new rfl 78 _ _ rfl _ (impC (i1,i2)).toArray rfl rfl hl2.out h2.out hone.out ?_))
   refine (identP i1 _ zi1.out (HEW.out).kw).mono ?_
   rintro e w' ⟨rfl,rfl⟩
   rw [HJ1.out]
   go_wp2_with fail
   go_roundw
   case rel=>exact ⟨k+1,by omega,by go_num,Hd (fun j hj hjk=>by
    by_cases hjk2:j=k
    ·subst hjk2;exact HOK2.out
    ·exact HOK.out j hj (by omega)),HR1,HB1⟩
   case measure=>simp [intOf];omega
  have n1:(i2.toList==[])=false:=by simp [he]
  have n2:(i2.toList != [])=true:=by simp [he]
  have n3:i2.toList.isEmpty=false:=by simp [he]
  have HNE:=Hd (show l[k].2.size≠0 by rw [HS2.out];intro h;exact he (toList_nil h))
  cases b2
  ·have HR:=Hd (modE_i HI.out HBG.out (by rw [HL.out];exact imps_bad hlt (imp_bad2 HNE.out HI2.out)))
   go_wp2_with (first
    | ((with_reducible show wpList _ _ _ (⟨some 20,_,_,_,_,_⟩::_) _ _);refine wpList_load_mid rfl 78 _ rfl b (o+k * 2) rfl (impC (i1,i2)) _ HG.out.range Tryz.underlying78 rfl hl1.out ?_)
    | ((with_reducible show wpList _ _ _ (⟨none,.store 78 (.tmp 4) (.tmp 20),_,_,_,_⟩::_) _ _);refine wpList_store_new rfl 78 _ _ rfl _ (impC (i1,i2)).toArray rfl rfl hl2.out h2.out hone.out ?_))
   refine (identP i1 _ zi1.out (HEW.out).kw).mono ?_
   rintro e w' ⟨rfl,rfl⟩
   rw [HJ1.out]
   go_wp2_with fail
   refine (identP i2 _ zi2.out (HEW.out).kw).mono ?_
   rintro e w' ⟨rfl,rfl⟩
   rw [HJ2.out]
   go_wp2_with fail
   go_ret
   exact int_ret HR.out HB1.out
  ·have HOK2:=Hd (imp_ok2 HI1.out HI2.out)
   go_wp2_with (first
    | ((with_reducible show wpList _ _ _ (⟨some 20,_,_,_,_,_⟩::_) _ _);refine wpList_load_mid rfl 78 _ rfl b (o+k * 2) rfl (impC (i1,i2)) _ HG.out.range Tryz.underlying78 rfl hl1.out ?_)
    | ((with_reducible show wpList _ _ _ (⟨none,.store 78 (.tmp 4) (.tmp 20),_,_,_,_⟩::_) _ _);refine wpList_store_new rfl 78 _ _ rfl _ (impC (i1,i2)).toArray rfl rfl hl2.out h2.out hone.out ?_))
   refine (identP i1 _ zi1.out (HEW.out).kw).mono ?_
   rintro e w' ⟨rfl,rfl⟩
   rw [HJ1.out]
   go_wp2_with fail
   refine (identP i2 _ zi2.out (HEW.out).kw).mono ?_
   rintro e w' ⟨rfl,rfl⟩
   rw [HJ2.out]
   go_wp2_with fail
   go_roundw
   case rel=>exact ⟨k+1,by omega,by go_num,Hd (fun j hj hjk=>by
    by_cases hjk2:j=k
    ·subst hjk2;exact HOK2.out
    ·exact HOK.out j hj (by omega)),HR1,HB1⟩
   case measure=>simp [intOf];omega
set_option maxRecDepth 100000 in
set_option maxHeartbeats 12800000 in
theorem check_module_r (m:ModD) (w:World) (B N:Nat) (cs:List Value) (hN:N≤1048576) (hB:B≤w.heap.size) (hm:ModD.At w B N m cs):Calls Tryz.prog 29 #[.agg cs.toArray] w (IntB (modE m) w):=by
 obtain ⟨ia,fa,ic,fc,es,hh⟩:=hm
 obtain ⟨nm,hnm⟩:∃ nm,m.name=nm:=⟨_,rfl⟩
 have HNM:=Hd hnm
 obtain ⟨l,hl⟩:∃ l,m.imps=l:=⟨_,rfl⟩
 have HL:=Hd hl
 obtain ⟨fs,hfs⟩:∃ fs,m.funcs=fs:=⟨_,rfl⟩
 have HFS:=Hd hfs
 have HC0:=Hd (show cs[0]?=some (.string nm) by rw [hh.cs,← hnm];rfl)
 have HC1:=Hd (show cs[1]?=some (.slice ia l.length ic) by rw [hh.cs,← hl];rfl)
 have HC2:=Hd (show cs[2]?=some (.slice fa fs.length fc) by rw [hh.cs,← hfs];rfl)
 have HES:=Hd hh.main
 have HIA:=Hd (show ImpsAt w B N l ia by rw [← hl];exact hh.atImp)
 have HFA:=Hd (show FuncsAt w B N fs fa by rw [← hfs];exact hh.atFun)
 have HMA:=Hd hh.atMain
 have hle:=Hd (show (Tryz.prog.info? 34).map (·.size)=some es.length by rw [hh.atMain.len];kernel_rfl)
 have zn:nm.size≤1048576:=by rw [← hnm];exact Nat.le_trans hh.hn hN
 have R0:=Hd (RowT.new w 44 cs)
 have H0:=Hd (belowBox w (.cells cs.toArray 44))
 have e0:=R0.out.cell HC0.out
 have e1:=R0.out.cell HC1.out
 have e2:=R0.out.cell HC2.out
 clear hh hnm hl hfs
 go_enter Tryz.func29,Tryz.ntmps29
 go_wp2_with fail
 refine (identR nm _ (by unfold maxLen;omega)).mono ?_
 rintro e w' ⟨rfl,rfl⟩
 obtain ⟨ib,hib⟩:∃ v,identB nm=v:=⟨_,rfl⟩
 have HI:=Hd (show identB m.name=ib by rw [HNM.out];exact hib)
 rw [hib]
 clear hib
 cases ib
 ·go_wp2_with fail
  go_ret
  exact int_ret (modE_n HI.out) H0.out
 by_cases hbig:16<l.length
 ·have HR:=Hd (modE_s HI.out (by rw [HL.out];exact hbig))
  go_wp2_with fail
  go_ret
  exact int_ret HR.out H0.out
 have HBG:=Hd (show ¬ 16<m.imps.length by rw [HL.out];exact hbig)
 go_wp2_with fail
 go_simp
 go_loopw [3] (fun i wr=>∃ k:Nat,k≤l.length∧i=.int .i64 k∧Hid (∀ j (hj:j<l.length),j<k→impB l[j]=true)∧Hid (RowT 44 wr w.heap.size cs)∧Hid (Below w.heap.size w wr)) (fun i _=>l.length-(intOf i).toNat)
 case atStart=>exact ⟨0,by omega,rfl,Hd (fun j _ hj=>absurd hj (by omega)),R0,H0⟩
 case round =>
  clear e0 e1 e2 R0
  obtain ⟨w1,rfl⟩:∃ w1,w1=wr:=⟨wr,rfl⟩
  obtain ⟨k,hk,rfl,HOK,HRr,HBr⟩:=hrel
  have e1:=HRr.out.cell HC1.out
  have e2:=HRr.out.cell HC2.out
  by_cases hlt:k<l.length
  case neg =>
   have HIM:=Hd (show m.imps.all impB=true by rw [HL.out];exact imps_all (fun j hj=>HOK.out j hj (by omega)))
   have HMF:=Hd (modE_f HI.out HBG.out HIM.out)
   rw [HFS.out] at HMF
   have HB9:=Hd (show B≤w1.heap.size from Nat.le_trans hB HBr.out.size)
   go_wp2_with fail
   refine (funs_o fs fa fc _ B N (by omega) HB9.out (FuncsAt.below (HBr.out.mono hB) _ HFA.out)).mono ?_
   rintro e w2 ⟨yy,rfl,hb2⟩
   have H2:=Hd (belowThen HBr.out hb2)
   have R2:=Hd (HRr.out.then hb2)
   clear hb2
   obtain ⟨z,hz⟩:∃ z,fnO fs=z:=⟨_,rfl⟩
   have HZ:=Hd hz
   rw [hz] at HMF ⊢
   clear hz
   by_cases h0:z=0
   case neg =>
    have HR:=Hd (show modE m=z by rw [HMF.out,if_pos h0])
    have n1:(z==0)=false:=by simpa using h0
    have n2:(z != 0)=true:=by simpa using h0
    clear h0
    go_wp2_with fail
    go_ret
    exact int_ret HR.out H2.out
   subst h0
   have HM2:=Hd (show modE m=if absB m.main=true then 0 else errE m.main by rw [HMF.out,if_neg (by simp)])
   go_wp2_with ((with_reducible show wpList _ _ _ (⟨some 58,_,_,_,_,_⟩::_) _ _);refine wpList_load_mid rfl 34 _ rfl w.heap.size 3 rfl es _ (R2.out.cells.partU HES.out) Tryz.underlying34 rfl hle.out ?_)
   refine (absent_r m.main _ B N es (Nat.le_trans hB H2.out.size) (HMA.out.below (H2.out.mono hB))).mono ?_
   rintro e w3 ⟨rfl,hb3⟩
   have H3:=Hd (belowThen H2.out hb3)
   have R3:=Hd (R2.out.then hb3)
   clear hb3
   cases hab:absB m.main
   case true =>
    have HR:=Hd (show modE m=0 by rw [HM2.out,if_pos hab])
    clear hab
    go_wp2_with fail
    go_ret
    exact int_ret HR.out H3.out
   have HR:=Hd (show modE m=errE m.main by rw [HM2.out,if_neg (by rw [hab];simp)])
   clear hab
   go_wp2_with ((with_reducible show wpList _ _ _ (⟨some 61,_,_,_,_,_⟩::_) _ _);refine wpList_load_mid rfl 34 _ rfl w.heap.size 3 rfl es _ (R3.out.cells.partU HES.out) Tryz.underlying34 rfl hle.out ?_)
   refine (check_r m.main _ B N es (by omega) (Nat.le_trans hB H3.out.size) (HMA.out.below (H3.out.mono hB))).mono ?_
   rintro e w4 ⟨rfl,hb4⟩
   have H4:=Hd (belowThen H3.out hb4)
   clear hb4
   go_wp2_with fail
   go_ret
   exact int_ret HR.out H4.out
  obtain ⟨b,o,rfl,hb,hget⟩:=HIA.out.get (by intro h;rw [h] at hlt;simp at hlt)
  obtain ⟨⟨z1,z2⟩,g1⟩:=hget k hlt
  obtain ⟨p,hp⟩:∃ p,l[k]=p:=⟨_,rfl⟩
  have HP:=Hd hp
  rw [hp] at g1 z1 z2
  obtain ⟨i1,i2⟩:=p
  replace z1:i1.size≤N:=z1
  replace z2:i2.size≤N:=z2
  have zi1:=Hd (show i1.size≤maxLen by unfold maxLen;omega)
  have zi2:=Hd (show i2.size≤maxLen by unfold maxLen;omega)
  have HG:=Hd (g1.below (HBr.out.mono hB) hb)
  have d0:w1.cell? ⟨b,o+k * 2,none⟩=some (.string i1):=HG.out.getA (j:=0) (v:=.string i1) rfl
  have d1:=HG.out.getA (j:=1) (v:=.string i2) rfl
  have HB1:=HBr
  have HR1:=HRr
  obtain ⟨b1,hb1⟩:∃ v,identB i1=v:=⟨_,rfl⟩
  have HI1:=Hd (show identB l[k].1=b1 by rw [HP.out];exact hb1)
  obtain ⟨b2,hb2⟩:∃ v,identB i2=v:=⟨_,rfl⟩
  have HI2:=Hd (show identB l[k].2=b2 by rw [HP.out];exact hb2)
  have HJ1:=Hd hb1
  have HJ2:=Hd hb2
  have HS2:=Hd (show l[k].2.size=i2.size by rw [HP.out])
  clear g1 hget hp hb1 hb2
  cases b1
  ·have HR:=Hd (modE_i HI.out HBG.out (by rw [HL.out];exact imps_bad hlt (imp_bad1 HI1.out)))
   go_wp2_with fail
   refine (identR i1 _ zi1.out).mono ?_
   rintro e w' ⟨rfl,rfl⟩
   rw [HJ1.out]
   go_wp2_with fail
   go_ret
   exact int_ret HR.out HB1.out
  by_cases he:i2.toList=[]
  ·have HOK2:=Hd (imp_ok0 HI1.out (by rw [HS2.out];exact size_nil he))
   go_wp2_with fail
   refine (identR i1 _ zi1.out).mono ?_
   rintro e w' ⟨rfl,rfl⟩
   rw [HJ1.out]
   go_wp2_with fail
   go_roundw
   case rel=>exact ⟨k+1,by omega,by go_num,Hd (fun j hj hjk=>by
    by_cases hjk2:j=k
    ·subst hjk2;exact HOK2.out
    ·exact HOK.out j hj (by omega)),HR1,HB1⟩
   case measure=>simp [intOf];omega
  have n1:(i2.toList==[])=false:=by simp [he]
  have n2:(i2.toList != [])=true:=by simp [he]
  have n3:i2.toList.isEmpty=false:=by simp [he]
  have HNE:=Hd (show l[k].2.size≠0 by rw [HS2.out];intro h;exact he (toList_nil h))
  cases b2
  ·have HR:=Hd (modE_i HI.out HBG.out (by rw [HL.out];exact imps_bad hlt (imp_bad2 HNE.out HI2.out)))
   go_wp2_with fail
   refine (identR i1 _ zi1.out).mono ?_
   rintro e w' ⟨rfl,rfl⟩
   rw [HJ1.out]
   go_wp2_with fail
   refine (identR i2 _ zi2.out).mono ?_
   rintro e w' ⟨rfl,rfl⟩
   rw [HJ2.out]
   go_wp2_with fail
   go_ret
   exact int_ret HR.out HB1.out
  ·have HOK2:=Hd (imp_ok2 HI1.out HI2.out)
   go_wp2_with fail
   refine (identR i1 _ zi1.out).mono ?_
   rintro e w' ⟨rfl,rfl⟩
   rw [HJ1.out]
   go_wp2_with fail
   refine (identR i2 _ zi2.out).mono ?_
   rintro e w' ⟨rfl,rfl⟩
   rw [HJ2.out]
   go_wp2_with fail
   go_roundw
   case rel=>exact ⟨k+1,by omega,by go_num,Hd (fun j hj hjk=>by
    by_cases hjk2:j=k
    ·subst hjk2;exact HOK2.out
    ·exact HOK.out j hj (by omega)),HR1,HB1⟩
   case measure=>simp [intOf];omega
end Go.Proofs.YtiefeajappjnbaaGreatDoor
