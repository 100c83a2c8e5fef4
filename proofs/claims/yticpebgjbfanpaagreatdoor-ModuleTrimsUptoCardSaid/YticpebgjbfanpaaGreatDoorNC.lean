/- The law's 'few' (datakitlaw38.few) with functions: it returns, writes nothing that was there, and where it says yes no node has more arguments than 65536. -/
import Derived.Test.YticpebgjbfanpaaGreatDoorGA
import Derived.Test.YticpebgjbfanpaaGreatDoorGU
import Derived.Test.YticpebgjbfanpaaGreatDoorGZ
import Derived.Deep.RegionHeld3
import Derived.Test.YticpebgjbfanpaaGreatDoorTrp39
import Derived.Test.YticpebgjbfanpaaGreatDoorNA
import Derived.Test.YticpebgjbfanpaaGreatDoorKD
namespace Go.Proofs.YticpebgjbfanpaaGreatDoor
open Go.RowKit
def BoolS39 (l:List FuncD) (x:ExprD) (w:World) (e:Ending) (w':World):Prop:=∃ (k:Bool),e=.returned (.bool k)∧Hid (k=true→smlF l∧smlE x)∧Below w.heap.size w w'
theorem holder39_at {w:World} {B N b c:Nat} {x:ExprD} {cs:List Value} {l:List FuncD} {fa:Option Addr} {fc:Nat} (hN1:1≤N) (hb:b<B) (h1:CellsAt w b 0 cs) (hx:ExprD.At w B N x cs) (hl:l.length≤N) (hA:FuncsAt w B N l fa) :
 ExprD.At w B N (.mk 0 ⟨#[]⟩ (.mk 0 false ⟨false,⟨#[]⟩,0⟩ ⟨0,0,0,0⟩ ⟨#[]⟩ [] [] []) [x] l)
  [.int .i64 0,.string ⟨#[]⟩,.int .i64 0,.bool false,.bool false,.string ⟨#[]⟩,.int .i64 0,.int .i64 0,.int .i64 0,.int .i64 0,.int .i64 0,.string ⟨#[]⟩,.slice none 0 0,.slice none 0 0,.slice none 0 0,.slice (some ⟨b,0,none⟩) 1 c,.slice fa l.length fc]:=by
 refine ⟨_,some ⟨b,0,none⟩,fa,c,fc,rfl,?_,zeroV_at w B N,⟨⟨b,0,cs,rfl,hb,h1,hx⟩,trivial⟩,hA⟩
 simp [ExprD.Own,ExprD.op,ExprD.name,ExprD.args,ExprD.funcs,I64,ByteArray.size]
 exact ⟨hN1,hl⟩
set_option maxRecDepth 100000 in
set_option maxHeartbeats 1600000 in
theorem few39 (l:List FuncD) (x:ExprD) (fa:Option Addr) (fc:Nat) (w:World) (B N:Nat) (cs:List Value) (hN:N≤1048576) (hN1:1≤N) (hl:l.length≤N) (hB:B≤w.heap.size) (hA:FuncsAt w B N l fa) (hx:ExprD.At w B N x cs) :
 Calls Tryz.prog 10 #[.slice fa l.length fc,.agg cs.toArray] w (BoolS39 l x w):=by
 have R0:=Hd (box_at w cs 34)
 have hll:=Hd (show (Tryz.prog.info? 34).map (·.size)=some cs.length by rw [hx.len];exact sizeE)
 have hfz:=fold_zip0 cs zE0 (by rw [hx.len];rfl)
 have HB1:=Hd (belowBox w (.cells cs.toArray 34))
 have HB2:=Hd (belowThen (belowBox w (.cells cs.toArray 34)) (belowBox (w.alloc (.cells cs.toArray 34)) (.cells cs.toArray 34)))
 have hbx:=box_at (w.alloc (.cells cs.toArray 34)) cs 34
 rw [World.size_alloc] at hbx
 have HX:=Hd (holder39_at (w:=(w.alloc (.cells cs.toArray 34)).alloc (.cells cs.toArray 34)) (B:=((w.alloc (.cells cs.toArray 34)).alloc (.cells cs.toArray 34)).heap.size) (b:=w.heap.size+1) (c:=1) (fa:=fa) (fc:=fc) hN1 (by rw [World.size_alloc (w.alloc _),World.size_alloc];omega)
  hbx ((hx.below (HB2.out.mono hB)).mono (Nat.le_trans hB HB2.out.size)) hl (FuncsAt.mono (Nat.le_trans hB HB2.out.size) _ (FuncsAt.below (HB2.out.mono hB) _ hA)))
 clear hbx
 have hlen:=hx.len
 clear hx hA
 by_cases ha:(l.length:Int)<300
 ·go_enter Tryz.func10,Tryz.ntmps10
  go_wp2_with (refine wpList_load_mid_f rfl 34 _ rfl w.heap.size 0 rfl cs _ R0.out.range Tryz.underlying34 rfl hll.out ?_)
  refine (small38 60 _ _ _ N _ 400 (Nat.le_refl _) (by omega) (by omega) (by omega) (Nat.le_refl _) HX.out).mono ?_
  rintro e w1 ⟨k,rfl,_,_,HK,hb1⟩
  have H1:=Hd (belowThen HB2.out hb1)
  clear hb1
  go_wp2_with fail
  go_ret
  exact ⟨_,rfl,Hd (fun h=>by
   have:=smlE_iff.1 (HK.out (by simpa using h))
   exact ⟨this.2.2,this.2.1.1⟩),H1.out⟩
 ·go_enter Tryz.func10,Tryz.ntmps10
  go_wp2_with fail
  go_ret
  exact ⟨_,rfl,Hd (fun h=>by simp at h),HB1.out⟩
end Go.Proofs.YticpebgjbfanpaaGreatDoor

/- The law ModuleChecks: it says yes. -/
namespace Go.Proofs.YticpebgjbfanpaaGreatDoor
open Go.RowKit
def YesL (w:World) (e:Ending) (w':World):Prop:=e=.returned (.bool true)∧Below w.heap.size w w'
theorem yields_skip {ops:Array Oper} {S:World→Prop} {o:Oper} {a:Act} (h:Region.wanted o (yielded ops a.tmps)=false):YieldsIf Tryz.prog ops S o undef a:=.inr ⟨h,rfl⟩
end Go.Proofs.YticpebgjbfanpaaGreatDoor

/- The law ModuleTrims: it says yes. -/
namespace Go.Proofs.YticpebgjbfanpaaGreatDoor
open Go.RowKit
theorem usedL_eq {l:List FuncD} {x:ExprD} {L L':List ByteArray} (h:UsedL l x L) (h':UsedL l x L'):L'=L:=by
 have e:L.map (·.data.toList)=L'.map (·.data.toList):=sorted_same h.1 (h'.1.imp fun {a b} hab=>List.le_of_lt hab) (h'.1.imp fun {a b} hab he=>by subst he;exact List.lt_irrefl _ hab) (fun y=>by
  rw [List.mem_map,List.mem_map]
  constructor
  ·rintro ⟨s,hs,rfl⟩
   exact ⟨s,(h.2 s).2 ((h'.2 s).1 hs),rfl⟩
  ·rintro ⟨s,hs,rfl⟩
   exact ⟨s,(h'.2 s).2 ((h.2 s).1 hs),rfl⟩)
 have inj:∀ (a b:List ByteArray),a.map (·.data.toList)=b.map (·.data.toList)→b=a:=by
  intro a
  induction a with
  | nil=>intro b hb;cases b with | nil=>rfl | cons=>simp at hb
  | cons s r ih =>
    intro b hb
    cases b with
    | nil=>simp at hb
    | cons t q =>
      rw [List.map_cons,List.map_cons,List.cons.injEq] at hb
      rw [bytes_inj hb.1,ih q hb.2]
 exact inj _ _ e
theorem trm_same {l:List FuncD} {x:ExprD} {k:Int} {fl fl':List FuncD} {y y':ExprD} (hk:k=prgE l x) (h:(k≠0→fl=[]∧y=zeroE)∧(k=0→∃ L,UsedL l x L∧fl=usedF L l∧y=x)) (h':(k≠0→fl'=[]∧y'=zeroE)∧(k=0→∃ L,UsedL l x L∧fl'=usedF L l∧y'=x)) :
 fl'=fl∧y'=y∧SamF fl∧SamX y∧fl.length≤l.length:=by
 by_cases h0:k=0
 ·obtain ⟨L,h1,h2,h3⟩:=h.2 h0
  obtain ⟨L',h1',h2',h3'⟩:=h'.2 h0
  rw [usedL_eq h1 h1'] at h2'
  have hp:prgE l x=0:=by rw [← hk,h0]
  refine ⟨by rw [h2,h2'],by rw [h3,h3'],?_,?_,by rw [h2];exact usedF_le L l⟩
  ·rw [h2]
   exact same_fns (m:=47) fun f hf=>prg_funcs hp f ((List.mem_filter.1 (show f∈l.filter (fun f=>memB L f.name) from hf)).1)
  ·rw [h3]
   exact same_all 47 x (err_size (prg_main hp)).1
 ·obtain ⟨h1,h2⟩:=h.1 h0
  obtain ⟨h1',h2'⟩:=h'.1 h0
  subst h1 h2 h1' h2'
  exact ⟨rfl,rfl,same_fns (m:=0) (fun _ hf=>by cases hf),same_all 0 _ dp_zero,Nat.zero_le _⟩
theorem PrgAt.len {w:World} {B N:Nat} {fl:List FuncD} {y:ExprD} {qs:List Value} (h:PrgAt w B N fl y qs):qs.length=18:=by
 obtain ⟨a,c,ys,rfl,_,hy⟩:=h
 rw [List.length_cons,hy.len]
theorem PrgAt.one {w:World} {B N:Nat} {fl:List FuncD} {y:ExprD} {qs:List Value} (h:PrgAt w B N fl y qs):∀ u∈qs,u.oneCell'=true:=by
 obtain ⟨a,c,ys,rfl,_,hy⟩:=h
 intro u hu
 rcases List.mem_cons.1 hu with rfl | hu
 ·rfl
 ·exact hy.one u hu
theorem PrgAt.then {w w':World} {N:Nat} {fl:List FuncD} {y:ExprD} {qs:List Value} (h:PrgAt w w.heap.size N fl y qs) (hb:Below w.heap.size w w'):PrgAt w' w'.heap.size N fl y qs:=by
 obtain ⟨a,c,ys,h1,h2,h3⟩:=h
 exact ⟨a,c,ys,h1,FuncsAt.mono hb.size _ (FuncsAt.below hb _ h2),ExprD.At.mono hb.size _ (h3.below hb)⟩
set_option maxRecDepth 100000 in
set_option maxHeartbeats 6400000 in
theorem law39t (l:List FuncD) (x:ExprD) (fa:Option Addr) (fc:Nat) (ms cs:List Value) (w:World) (N:Nat) (hN:N≤1048576) (hN1:1≤N) (h4:4≤w.heap.size) (hE:Env w) (hT:TabAt w) (hl:l.length≤N) (hA:FuncsAt w w.heap.size N l fa) (hx:ExprD.At w w.heap.size N x ms) (hcs:cs=.slice fa l.length fc::ms) :
 Calls Tryz.prog 4 #[.agg cs.toArray] w (YesL w):=by
 have HX:=Hd hx
 have HA:=Hd hA
 have HE:=Hd hE
 have HT:=Hd hT
 have HCS:=Hd hcs
 have H4:=Hd h4
 have HC0:=Hd (show cs[0]?=some (.slice fa l.length fc) by rw [hcs];rfl)
 have hml:ms.length=17:=hx.len
 have HMS:=Hd (show (cs.drop 1).take 17=ms by rw [hcs];exact List.take_of_length_le (show ms.length≤17 by omega))
 have hlp:=Hd (show (Tryz.prog.info? 36).map (·.size)=some cs.length by rw [hcs,List.length_cons,hml];kernel_rfl)
 have hlm:=Hd (show (Tryz.prog.info? 34).map (·.size)=some ms.length by rw [hml];exact sizeE)
 have R0:=Hd (RowT.new w 36 cs)
 have B0:=Hd (belowBox w (.cells cs.toArray 36))
 obtain ⟨w1,hw1⟩:∃ w1,w1=w.alloc (.cells cs.toArray 36):=⟨_,rfl⟩
 have HW:=Hd hw1
 rw [← hw1] at R0 B0
 have p0:(w.alloc (.cells cs.toArray 36)).cell? ⟨w.heap.size,0,none⟩=some (.slice fa l.length fc):=by rw [← hw1];exact R0.out.cell HC0.out
 clear hx hA hE hT hcs hml h4 hw1
 go_enter Tryz.func4,Tryz.ntmps4
 go_wp2_with ((with_reducible show wpList _ _ _ (⟨some 10,_,_,_,_,_⟩::_) _ _);refine wpList_load_mid rfl 34 _ rfl w.heap.size 1 rfl ms _ (by rw [← HW.out];exact R0.out.cells.part HMS.out) Tryz.underlying34 rfl hlm.out ?_)
 rw [← HW.out]
 refine (few39 l x fa fc w1 w.heap.size N ms hN hN1 hl B0.out.size (FuncsAt.below B0.out _ HA.out) (HX.out.below B0.out)).mono ?_
 rintro e w2 ⟨k,rfl,HK,hb2⟩
 have H2:=Hd (belowThen B0.out hb2)
 have R2:=Hd (R0.out.then hb2)
 clear hb2 p0 HW R0 B0
 cases k
 ·go_wp2_with fail
  go_ret
  exact ⟨rfl,H2.out⟩
 have HSM:=Hd (HK.out rfl)
 clear HK
 go_wp2_with ((with_reducible show wpList _ _ _ (⟨some 14,_,_,_,_,_⟩::_) _ _);refine wpList_load_mid rfl 36 _ rfl w.heap.size 0 rfl cs _ R2.out.range Tryz.underlying36 rfl hlp.out ?_)
 refine (trim_p l x fa fc ms cs w2 w.heap.size N hN H4.out H2.out.size (HE.out.then H2.out) (HT.out.below H2.out) HSM.out.1 HSM.out.2 (FuncsAt.below H2.out _ HA.out) (HX.out.below H2.out) HCS.out).mono ?_
 rintro e w3 ⟨qs,k,fl,y,rfl,HK1,HP1,HF1,hb3⟩
 have H3:=Hd (belowThen H2.out hb3)
 have R3:=Hd (R2.out.then hb3)
 have hq1:=Hd (show (Tryz.prog.info? 36).map (·.size)=some qs.toArray.size by rw [List.size_toArray,HP1.out.len];kernel_rfl)
 have hq2:=Hd (show (Tryz.prog.info? 36).map (·.size)=some qs.length by rw [HP1.out.len];kernel_rfl)
 have hq3:=Hd (show 18=qs.toArray.size by rw [List.size_toArray,HP1.out.len])
 have hq4:=Hd (show qs.toArray.all (·.oneCell')=true from Go.all_oneCell_toArray HP1.out.one)
 obtain ⟨w4,hw4⟩:∃ w4,w4=w3.alloc (.cells qs.toArray 36):=⟨_,rfl⟩
 have HW4:=Hd hw4
 have HB4:=Hd (show Below w3.heap.size w3 w4 by rw [hw4];exact belowBox w3 _)
 have RQ4:=Hd (show RowT 36 w4 w3.heap.size qs by rw [hw4];exact RowT.new w3 36 qs)
 have H5:=Hd (belowThen H3.out HB4.out)
 have R4:=Hd (R3.out.then HB4.out)
 have HP4:=Hd (HP1.out.then HB4.out)
 clear hb3 hw4 R2 HP1
 go_wp2_with (first
  | ((with_reducible show wpList _ _ _ (⟨none,.store 36 (.tmp 3) (.tmp 16),_,_,_,_⟩::_) _ _);refine wpList_store_new rfl 36 _ _ rfl _ qs.toArray rfl rfl hq1.out hq3.out hq4.out ?_;rw [← HW4.out])
  | ((with_reducible show wpList _ _ _ (⟨some 19,_,_,_,_,_⟩::_) _ _);refine wpList_load_mid rfl 36 _ rfl w.heap.size 0 rfl cs _ R4.out.range Tryz.underlying36 rfl hlp.out ?_))
 refine (trim_r l x fa fc ms cs w4 w.heap.size N hN H5.out.size (HT.out.below H5.out) hl (FuncsAt.below H5.out _ HA.out) (HX.out.below H5.out) HCS.out).mono ?_
 rintro e w5 ⟨ps,k2,fl2,y2,rfl,HK2,HP2,HF2,hb5⟩
 obtain rfl:k2=k:=HK2.out.trans HK1.out.symm
 obtain ⟨rfl,rfl,hsf,hsx,hfl⟩:=trm_same HK1.out HF1.out HF2.out
 have HSF:=Hd hsf
 have HSX:=Hd hsx
 have HFL:=Hd (Nat.le_trans hfl hl)
 have H6:=Hd (belowThen H5.out hb5)
 have R5:=Hd (R4.out.then hb5)
 have RQ5:=Hd (RQ4.out.then hb5)
 have HP5:=Hd (HP4.out.then hb5)
 have hr1:=Hd (show (Tryz.prog.info? 36).map (·.size)=some ps.toArray.size by rw [List.size_toArray,HP2.out.len];kernel_rfl)
 have hr2:=Hd (show (Tryz.prog.info? 36).map (·.size)=some ps.length by rw [HP2.out.len];kernel_rfl)
 have hr3:=Hd (show 18=ps.toArray.size by rw [List.size_toArray,HP2.out.len])
 have hr4:=Hd (show ps.toArray.all (·.oneCell')=true from Go.all_oneCell_toArray HP2.out.one)
 obtain ⟨w6,hw6⟩:∃ w6,w6=w5.alloc (.cells ps.toArray 36):=⟨_,rfl⟩
 have HW6:=Hd hw6
 have HB6:=Hd (show Below w5.heap.size w5 w6 by rw [hw6];exact belowBox w5 _)
 have RP6:=Hd (show RowT 36 w6 w5.heap.size ps by rw [hw6];exact RowT.new w5 36 ps)
 have H7:=Hd (belowThen H6.out HB6.out)
 have R6:=Hd (R5.out.then HB6.out)
 have RQ6:=Hd (RQ5.out.then HB6.out)
 have HQ6:=Hd (HP5.out.then HB6.out)
 have HP6:=Hd (HP2.out.then HB6.out)
 have HKK:=Hd HK1.out
 clear hb5 hw6 hsf hsx hfl HP2 HP5 HP4 HF1 HF2 HK1 HK2 R4 RQ4 HB4 HW4 hq1 hq3 hq4
 go_wp2_with (first
  | ((with_reducible show wpList _ _ _ (⟨none,.store 36 (.tmp 5) (.tmp 21),_,_,_,_⟩::_) _ _);refine wpList_store_new rfl 36 _ _ rfl _ ps.toArray rfl rfl hr1.out hr3.out hr4.out ?_;rw [← HW6.out])
  | ((with_reducible show wpList _ _ _ (⟨some 27,_,_,_,_,_⟩::_) _ _);refine wpList_load_mid_f rfl 36 _ rfl w3.heap.size 0 rfl qs _ RQ6.out.range Tryz.underlying36 rfl hq2.out ?_)
  | ((with_reducible show wpList _ _ _ (⟨some 28,_,_,_,_,_⟩::_) _ _);refine wpList_load_mid_f rfl 36 _ rfl w5.heap.size 0 rfl ps _ RP6.out.range Tryz.underlying36 rfl hr2.out ?_))
 refine (same39 _ _ HSF.out HSX.out w6 w6.heap.size N qs ps hN HFL.out (Nat.le_refl _) HQ6.out HP6.out).mono ?_
 rintro e w7 ⟨rfl,hb7⟩
 have H8:=Hd (belowThen H7.out hb7)
 have R7:=Hd (R6.out.then hb7)
 clear hb7
 have HBD:=drewW w7
 by_cases hk:k2=0
 ·have HPK:=Hd (show prgE l x=0 by rw [← HKK.out,hk])
  subst hk
  go_wp2_with fail
  refine wp_region_held_drew (S:=fun u=>Below w7.heap.size w7 u) (by kernel_rfl) HBD (fun hHeld=>?_)
  refine' tk 0 (.int .i64 0) rfl rfl (.inl ⟨by rfl,fun u hu=>(by go_simp)⟩) hHeld ?_
  simp only [sq1,sq0]
  refine' tk 1 (.bool false) rfl rfl (.inl ⟨by rfl,fun u hu=>(by go_simp)⟩) hHeld ?_
  simp only [sq1,sq0]
  refine' tk 2 (.bool false) rfl rfl (.inl ⟨by rfl,fun u hu=>(by go_simp)⟩) hHeld ?_
  simp only [sq1,sq0]
  refine' tk 3 _ rfl rfl (yieldsIf_load_mid (by kernel_rfl) 36 _ rfl (w.heap.size) (0) rfl cs _ (fun u hu=>(R7.out.then hu).range) Tryz.underlying36 rfl hlp.out) hHeld ?_
  simp only [sq1,sq0]
  refine' tk 5 _ rfl rfl (yieldsIf_load_mid (by kernel_rfl) 36 _ rfl (w.heap.size) (0) rfl cs _ (fun u hu=>(R7.out.then hu).range) Tryz.underlying36 rfl hlp.out) hHeld ?_
  simp only [sq1,sq0]
  refine rd1 4 rfl (fun K hK=>?_)
  go_simp
  have HBa:=belowThen H8.out hHeld
  refine (usedn_p l x fa fc ms cs _ w.heap.size N hN HBa.size ((HE.out.then HBa).max) HPK.out (FuncsAt.below HBa _ HA.out) (HX.out.below HBa) HCS.out).mono ?_
  rintro e u1 ⟨a1,c1,L,rfl,HU1,HN1,hb1⟩
  refine hK.out _ _ (belowThen hHeld hb1) (fun hHeld1=>?_)
  clear hK K hb1 hHeld HBa
  refine rd1 6 rfl (fun K hK=>?_)
  go_simp
  have HBa:=belowThen H8.out hHeld1
  refine (used_r l x fa fc ms cs _ w.heap.size N hN HBa.size HPK.out hl (FuncsAt.below HBa _ HA.out) (HX.out.below HBa) HCS.out).mono ?_
  rintro e u2 ⟨a2,c2,L2,rfl,HU2,HN2,hb2⟩
  obtain rfl:=usedL_eq HU1.out HU2.out
  have HN12:=Hd ((HN1.out.keep (Kept.of_below hb2)).mono hb2.size)
  have HLL:=Hd (show L2.length≤1048576 from Nat.le_trans HU2.out.len (Nat.le_trans hl hN))
  refine hK.out _ _ (belowThen hHeld1 hb2) (fun hHeld2=>?_)
  clear hK K hb2 hHeld1 HBa
  refine rd1 7 rfl (fun K hK=>?_)
  go_simp
  refine (strs_yes L2 a1 a2 c1 c2 _ HLL.out HN12.out HN2.out).mono ?_
  rintro e u3 ⟨rfl,hb3⟩
  refine hK.out _ _ (belowThen hHeld2 hb3) (fun hHeld3=>?_)
  clear hK K hb3 hHeld2
  refine rd1 8 rfl (fun K hK=>?_)
  go_simp
  refine hK.out _ _ hHeld3 (fun hHeldx=>?_)
  clear hK K hHeldx
  refine rd1 9 rfl (fun K hK=>?_)
  go_simp
  refine hK.out _ _ hHeld3 (fun hHeldx=>?_)
  clear hK K hHeldx
  refine wpAnyH_done (by kernel_rfl) ?_ _
  go_wp2_with fail
  go_ret
  exact ⟨rfl,belowThen H8.out hHeld3⟩
 ·have hk1:(k2 != 0)=true:=by simpa using hk
  have hk2:(k2==0)=false:=by simpa using hk
  clear hk
  go_wp2_with fail
  refine wp_region_held_drew (S:=fun u=>Below w7.heap.size w7 u) (by kernel_rfl) HBD (fun hHeld=>?_)
  refine' tk 0 (.int .i64 k2) rfl rfl (.inl ⟨by rfl,fun u hu=>(by go_simp)⟩) hHeld ?_
  simp only [sq1,sq0]
  refine' tk 1 (.bool true) rfl rfl (.inl ⟨by rfl,fun u hu=>(by go_simp)⟩) hHeld ?_
  simp only [sq1,sq0]
  refine' tk 2 (.bool true) rfl rfl (.inl ⟨by rfl,fun u hu=>(by go_simp)⟩) hHeld ?_
  simp only [sq1,sq0]
  refine' tk 3 undef rfl rfl (yields_skip (by kernel_rfl)) hHeld ?_
  simp only [sq1,sq0]
  refine' tk 5 undef rfl rfl (yields_skip (by kernel_rfl)) hHeld ?_
  simp only [sq1,sq0]
  refine' tk 4 undef rfl rfl (yields_skip (by kernel_rfl)) hHeld ?_
  simp only [sq1,sq0]
  refine' tk 6 undef rfl rfl (yields_skip (by kernel_rfl)) hHeld ?_
  simp only [sq1,sq0]
  refine' tk 7 undef rfl rfl (yields_skip (by kernel_rfl)) hHeld ?_
  simp only [sq1,sq0]
  refine rd1 8 rfl (fun K hK=>?_)
  go_simp
  refine hK.out _ _ hHeld (fun hHeldx=>?_)
  clear hK K hHeldx
  refine rd1 9 rfl (fun K hK=>?_)
  go_simp
  refine hK.out _ _ hHeld (fun hHeldx=>?_)
  clear hK K hHeldx
  refine wpAnyH_done (by kernel_rfl) ?_ _
  go_wp2_with fail
  go_ret
  exact ⟨rfl,belowThen H8.out hHeld⟩
end Go.Proofs.YticpebgjbfanpaaGreatDoor
