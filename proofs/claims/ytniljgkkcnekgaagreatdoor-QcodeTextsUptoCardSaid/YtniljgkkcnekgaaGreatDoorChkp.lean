/- The program's validity of values (value.check, Check): what they compute, exactly. -/
import Derived.Test.YtniljgkkcnekgaaGreatDoorProg
import Derived.Test.YtniljgkkcnekgaaGreatDoorGA
import Derived.Test.YtniljgkkcnekgaaGreatDoorGB
import Derived.Test.YtniljgkkcnekgaaGreatDoorGU
import Derived.Test.YtniljgkkcnekgaaGreatDoorGF
import Derived.Test.YtniljgkkcnekgaaGreatDoorHN
import Derived.Test.YtniljgkkcnekgaaGreatDoorGH
import Derived.Test.YtniljgkkcnekgaaGreatDoorGC
import Derived.Test.YtniljgkkcnekgaaGreatDoorGK
import Derived.Test.YtniljgkkcnekgaaGreatDoorOnex
namespace Go.Proofs.YtniljgkkcnekgaaGreatDoor
open Go.RowKit
theorem vdec_zero {d:DecD} (h:decB d ⟨false,⟨#[]⟩,0⟩=true):vdecB d=true:=by
 refine (vdecB_iff d).2 (.inl ?_)
 unfold decB at h
 simp only [Bool.and_eq_true,beq_iff_eq] at h
 refine ⟨?_,h.1,h.2.2⟩
 have h2:=h.2.1
 rw [show (⟨#[]⟩:ByteArray).toList=[] from toList_nil rfl] at h2
 exact (toList_nil_iff _).1 h2
theorem valid_empty {s:ByteArray} (h:s.size=0):validS s=true:=by unfold validS;rw [h];rfl
set_option maxRecDepth 100000 in
set_option maxHeartbeats 6400000 in
theorem check_exact (m:Nat):∀ (v:ValD) (w:World) (B N:Nat) (cs:List Value) (depth:Nat) (n:Int) (pb:Nat) (y z:Int),depth+m=49→0≤n→n≤65536→N≤4294967296→B≤w.heap.size→B≤pb→CellI w pb n→ValD.At w B N v cs→lookD m v n=(y,z) →
 Calls Tryz.prog 56 #[.agg cs.toArray,.int .i64 depth,.pointer (some ⟨pb,0,none⟩)] w (ChkX pb (y,z) w):=by
 induction m with
 | zero =>
   intro v w B N cs depth n pb y z hd hn0 hn1 hN hB hpb hc hv hr
   obtain ⟨rfl,rfl⟩:n=y∧(9:Int)=z:=by simpa [lookD] using hr
   have HC:=Hd hc
   have k0:=hc.cell
   have k1:=hc.frozen
   have k2:=(hc.below (belowBox w (.cells cs.toArray 39))).cell
   have k3:=(hc.below (belowBox w (.cells cs.toArray 39))).frozen
   clear hv hr hc
   go_enter Tryz.func56,Tryz.ntmps56
   go_wp2_with fail
   go_ret
   exact chk_end (by decide) ((FB.of_below (belowBox w _)).trans (FB.setCell _ 0 _)) ((HC.out.below (belowBox w _)).set _)
 | succ m ih =>
   intro v w B N cs depth n pb y z hd hn0 hn1 hN hB hpb hc hv hr
   have IH:=Hd ih
   have hd':depth≤48:=by omega
   have HD:=Hd hd
   have HV:=Hd hv
   have HRES:=Hd (show (if 65536≤n then (n,10) else if oneE v=0 then kidsL (lookD m) (kidsD v) (n+1) else (n,oneE v))=(y,z) from hr)
   have hl:=Hd (show (Tryz.prog.info? 39).map (·.size)=some cs.length by rw [hv.len];exact sizeV)
   have HC:=Hd hc
   have hplt:=hc.lt
   have k0:=hc.cell
   have k1:=hc.frozen
   have hcb:=hc.below (belowBox w (.cells cs.toArray 39))
   have k2:=hcb.cell
   have k3:=hcb.frozen
   have hss:(w.setCell ⟨pb,0,none⟩ (.int .i64 (n+1))).heap.size=w.heap.size:=by simp
   have HC1:=Hd ((hc.set (n+1)).below (belowBox (w.setCell ⟨pb,0,none⟩ (.int .i64 (n+1))) (.cells cs.toArray 39)))
   have k4:=HC1.out.cell
   have HF1:=Hd (show FB pb w ((w.setCell ⟨pb,0,none⟩ (.int .i64 (n+1))).alloc (.cells cs.toArray 39)) from (FB.setCell _ 0 _).trans (FB.of_below (belowBox _ _)))
   have R1:=Hd (show CellsAt ((w.setCell ⟨pb,0,none⟩ (.int .i64 (n+1))).alloc (.cells cs.toArray 39)) w.heap.size 0 cs from by
    have:=box_at (w.setCell ⟨pb,0,none⟩ (.int .i64 (n+1))) cs 39
    rw [hss] at this
    exact this)
   obtain ⟨ya,la,va,yc,lc,vc,hh⟩:=hv.has
   have hds:v.num.digits.size≤N:=hh.own.2.2.2.2.2.2.1
   have hts:v.text.size≤N:=hh.own.2.2.2.2.2.2.2.1
   have hll:v.list.length≤N:=hh.own.2.2.2.2.2.2.2.2.2.1
   have hfs:v.fields.length≤N:=hh.own.2.2.2.2.2.2.2.2.2.2
   have HH:=Hd hh
   have hsz1:((w.setCell ⟨pb,0,none⟩ (.int .i64 (n+1))).alloc (.cells cs.toArray 39)).heap.size=w.heap.size+1:=by simp
   have HS1:=Hd hsz1
   clear ih hv hd hr hc hcb hh hsz1 hss
   have d0:=R1.out.get0 HH.out.kind
   by_cases hs:65536≤n
   ·have HX:=HRES.out
    rw [if_pos hs] at HX
    obtain ⟨rfl,rfl⟩:n=y∧(10:Int)=z:=by simpa using HX
    clear HX
    go_enter Tryz.func56,Tryz.ntmps56
    go_wp2_with fail
    go_ret
    exact chk_end (by decide) HF1.out HC1.out
   have HR2:=Hd (show (if oneE v=0 then kidsL (lookD m) (kidsD v) (n+1) else (n,oneE v))=(y,z) by have:=HRES.out;rwa [if_neg hs] at this)
   clear HRES
   by_cases hkr:0≤v.kind∧v.kind<8
   ·obtain ⟨hk0,hk7⟩:=hkr
    have GK1:=Hd (show @decide (v.kind<0) (Int.decLt _ _)=false from decide_eq_false (by omega))
    have GK2:=Hd (show @decide (8≤v.kind) (Int.decLe _ _)=false from decide_eq_false (by omega))
    go_enter Tryz.func56,Tryz.ntmps56
    go_wp2_with ((with_reducible show wpList _ _ _ (⟨some 37,_,_,_,_,_⟩::_) _ _);refine wpList_load_mid_g' ?hw 39 _ rfl w.heap.size 0 rfl cs _ R1.out.range Tryz.underlying39 rfl hl.out ?_;case hw=>(rw [GK1.out,GK2.out];kernel_rfl))
    refine (extra_exact v _ w.heap.size N cs hk0 hk7 ?hat).mono ?_
    case hat=>exact (HV.out.below ((HF1.out.below hpb hB))).mono hB
    rintro e w2 ⟨rfl,hb2⟩
    have HC2:=Hd (HC1.out.below hb2)
    have HF2:=Hd (HF1.out.trans (FB.of_below hb2))
    have R2:=Hd (R1.out.then hb2 (by rw [HS1.out];omega))
    have hs2:w.heap.size<w2.heap.size:=by have:=hb2.size;rw [HS1.out] at this;omega
    clear hb2 k2 k3 k4 d0
    cases ho:ownB v with
    | false =>
      have HX:=HR2.out
      rw [oneE_6 ho,if_neg (by decide)] at HX
      obtain ⟨rfl,rfl⟩:n=y∧(6:Int)=z:=by simpa using HX
      clear HX ho
      go_wp2_with fail
      go_ret
      exact chk_end (by decide) HF2.out HC2.out
    | true =>
    have HO:=Hd ho
    obtain ⟨_,_,_,ow1,ow2,ow3,_,_,_⟩:=(ownB_iff v).1 ho
    have OW1:=Hd ow1
    have OW2:=Hd ow2
    have OW3:=Hd ow3
    clear ho ow1 ow2 ow3
    have REST:=Hd (show ∀ w3:World,Below w2.heap.size w2 w3→FB pb w w3∧CellI w3 pb (n+1)∧CellsAt w3 w.heap.size 0 cs∧w.heap.size<w3.heap.size from fun w3 hb3 =>
     ⟨HF2.out.trans (FB.of_below hb3),HC2.out.below hb3,R2.out.then hb3 hs2,Nat.lt_of_lt_of_le hs2 hb3.size⟩)
    have d0:=R2.out.get0 HH.out.kind
    have hcase:v.kind=2∨v.kind=3∨v.kind=4∨(v.kind≠2∧v.kind≠3∧v.kind≠4):=by omega
    rcases hcase with hk | hk | hk | hk
    case' inl =>
     have HK:=Hd hk
     have d2:=R2.out.get0 HH.out.neg
     have d3:=R2.out.get0 HH.out.digits
     have d4:=R2.out.get0 HH.out.exp
     rw [hk] at d0
     clear hk
     go_wp2_with fail
     refine (decv_exact v.num _ (by unfold maxLen;omega)).mono ?_
     rintro e w3 ⟨rfl,hb3⟩
     obtain ⟨hf3,hc3,hr3,hs3⟩:=REST.out _ hb3
     have HF3:=Hd hf3
     have HC3:=Hd hc3
     have R3:=Hd hr3
     clear hb3 hf3 hc3 hr3 d0 d2 d3 d4 R2 HF2 HC2 REST hs2
     cases hd:vdecB v.num
     case false =>
      have HX:=HR2.out
      rw [oneE_2 HO.out (.inl hd),if_neg (by decide)] at HX
      obtain ⟨rfl,rfl⟩:n=y∧(2:Int)=z:=by simpa using HX
      clear HX hd
      go_wp2_with fail
      go_ret
      exact chk_end (by decide) HF3.out HC3.out
     have HQ:=Hd (show ¬ (vdecB v.num=false∨(v.kind=3∧vtimeB v.time=false)) by rw [hd,HK.out];simp)
     have HT:=Hd (show validS v.text=true from valid_empty ((toList_nil_iff _).1 (OW3.out (by rw [HK.out];decide))))
     have e0:=R3.out.get0 HH.out.kind
     rw [HK.out] at e0
     clear hd
    case' inr.inl =>
     have HK:=Hd hk
     have d5:=R2.out.get0 HH.out.tkind
     have d6:=R2.out.get0 HH.out.day
     have d7:=R2.out.get0 HH.out.nano
     have d8:=R2.out.get0 HH.out.offset
     rw [hk] at d0
     clear hk
     go_wp2_with fail
     refine (momentValid v.time _).mono ?_
     rintro e w3 ⟨rfl,hb3⟩
     obtain ⟨hf3,hc3,hr3,hs3⟩:=REST.out _ hb3
     have HF3:=Hd hf3
     have HC3:=Hd hc3
     have R3:=Hd hr3
     clear hb3 hf3 hc3 hr3 d0 d5 d6 d7 d8 R2 HF2 HC2 REST hs2
     cases hd:vtimeB v.time
     case false =>
      have HX:=HR2.out
      rw [oneE_2 HO.out (.inr ⟨HK.out,hd⟩),if_neg (by decide)] at HX
      obtain ⟨rfl,rfl⟩:n=y∧(2:Int)=z:=by simpa using HX
      clear HX hd
      go_wp2_with fail
      go_ret
      exact chk_end (by decide) HF3.out HC3.out
     have HQ:=Hd (show ¬ (vdecB v.num=false∨(v.kind=3∧vtimeB v.time=false)) by rw [hd,vdec_zero (OW1.out (by rw [HK.out];decide))];simp)
     have HT:=Hd (show validS v.text=true from valid_empty ((toList_nil_iff _).1 (OW3.out (by rw [HK.out];decide))))
     have e0:=R3.out.get0 HH.out.kind
     rw [HK.out] at e0
     clear hd
    case' inr.inr.inl =>
     have HK:=Hd hk
     have d9:=R2.out.get0 HH.out.text
     rw [hk] at d0
     have HQ:=Hd (show ¬ (vdecB v.num=false∨(v.kind=3∧vtimeB v.time=false)) by rw [hk,vdec_zero (OW1.out (by rw [hk];decide))];simp)
     clear hk
     go_wp2_with fail
     refine (uvalid_ex v.text _ (by omega)).mono ?_
     rintro e w3 ⟨rfl,hw3⟩
     have hb3:Below w2.heap.size w2 w3:=by rw [← hw3];exact Below.refl _ _
     obtain ⟨hf3,hc3,hr3,hs3⟩:=REST.out _ hb3
     have HF3:=Hd hf3
     have HC3:=Hd hc3
     have R3:=Hd hr3
     clear hw3 hb3 hf3 hc3 hr3 d0 d9 R2 HF2 HC2 REST hs2
     cases hd:validS v.text
     case false =>
      have HX:=HR2.out
      rw [oneE_5 HO.out HQ.out hd,if_neg (by decide)] at HX
      obtain ⟨rfl,rfl⟩:n=y∧(5:Int)=z:=by simpa using HX
      clear HX hd
      go_wp2_with fail
      go_ret
      exact chk_end (by decide) HF3.out HC3.out
     have HT:=Hd hd
     have e0:=R3.out.get0 HH.out.kind
     rw [HK.out] at e0
     clear hd
    case' inr.inr.inr =>
     have HK:=Hd hk
     have HQ:=Hd (show ¬ (vdecB v.num=false∨(v.kind=3∧vtimeB v.time=false)) by rw [vdec_zero (OW1.out hk.1)];simp [hk.2.1])
     have HT:=Hd (show validS v.text=true from valid_empty ((toList_nil_iff _).1 (OW3.out hk.2.2)))
     obtain ⟨hf3,hc3,hr3,hs3⟩:=REST.out _ (Below.refl _ _)
     have HF3:=Hd hf3
     have HC3:=Hd hc3
     have R3:=Hd hr3
     clear hf3 hc3 hr3 d0 R2 HF2 HC2 REST hs2
     have e0:=R3.out.get0 HH.out.kind
     have gq2:(v.kind==2)=false:=by simpa using hk.1
     have gq3:(v.kind==3)=false:=by simpa using hk.2.1
     have gq4:(v.kind==4)=false:=by simpa using hk.2.2
     clear hk
    all_goals
     have d9:=R3.out.get0 HH.out.text
     have d10:=R3.out.get0 HH.out.bytes
     have d12:=R3.out.get0 HH.out.fields
     by_cases hsz:65536<v.text.size∨65536<v.bytes.length
     ·have HX:=HR2.out
      rw [oneE_10 HO.out HQ.out HT.out hsz,if_neg (by decide)] at HX
      obtain ⟨rfl,rfl⟩:n=y∧(10:Int)=z:=by simpa using HX
      clear HX
      have hsz2:65536<v.text.size∨(¬ 65536<v.text.size∧65536<v.bytes.length):=by omega
      clear hsz
      rcases hsz2 with g1 | ⟨g1,g2⟩
      all_goals
       go_wp2_with fail
       go_ret
       exact chk_end (by decide) HF3.out HC3.out
     ·have HX:=Hd (oneE_k HO.out HQ.out HT.out hsz)
      have g1:¬ 65536<v.text.size:=by omega
      have g2:¬ 65536<v.bytes.length:=by omega
      clear hsz
      go_wp2_with fail
      have HB3:=Hd (HF3.out.below hpb hB)
      refine (keysP_ex v.fields va vc _ B N hN hfs (Nat.le_trans hB HF3.out.size) (HH.out.atFields.below HB3.out)).mono ?_
      rintro e w4 ⟨rfl,hb4⟩
      have HF4:=Hd (HF3.out.trans (FB.of_below hb4))
      have HC4:=Hd (HC3.out.below hb4)
      have R4:=Hd (R3.out.then hb4 hs3)
      have hs4:w.heap.size<w4.heap.size:=Nat.lt_of_lt_of_le hs3 hb4.size
      clear hb4 HB3 HF3 HC3 R3 hs3 e0 d9 d10 d12
      obtain ⟨k1,hk1⟩:∃ k1,keysE [] (keyD v)=k1:=⟨_,rfl⟩
      have HR3:=HR2.out
      rw [HX.out,hk1] at HR3
      rw [keyD_eq,hk1]
      by_cases hk0':k1=0
      ·subst hk0'
       rw [if_pos rfl,own_parts HO.out] at HR3
       have HRES:=Hd HR3
       have d11:=R4.out.get0 HH.out.list
       clear HR3 HR2 hk1 HX
       go_wp2_with fail
       go_simp
       go_loopw [91] (fun i wr=>∃ (x:Int) (k:Nat),k≤v.list.length∧i=.int .i64 k∧0≤x∧x≤65536∧Hid (kidsL (lookD m) ((v.list++v.fields.map (·.2)).drop k) x=(y,z))∧Hid (FB pb w wr)∧Hid (CellI wr pb x)∧Hid (CellsAt wr w.heap.size 0 cs)∧w.heap.size<wr.heap.size) (fun i _=>v.list.length-(intOf i).toNat)
       case atStart=>exact ⟨n+1,0,by omega,rfl,by omega,by omega,HRES,HF4,HC4,R4,hs4⟩
       case round =>
        obtain ⟨w5,rfl⟩:∃ w5,w5=wr:=⟨wr,rfl⟩
        clear HRES HF4 HC4 R4 hs4 d11
        obtain ⟨x,k,hk,rfl,hx0,hx1,HRES,HF,HCC,R5,hs5⟩:=hrel
        by_cases hlt:k<v.list.length
        ·obtain ⟨b,o,rfl,hb,hget⟩:=HH.out.atList.get (by intro h;simp [h] at hlt)
         obtain ⟨cs1,h1,h2⟩:=hget k hlt
         have hbw:Below B w w5:=HF.out.below hpb hB
         have HR:=Hd (h1.below hbw hb).range
         have hbx:Below B w (w5.alloc (.cells cs1.toArray 39)):=(HF.out.trans (FB.of_below (belowBox w5 _))).below hpb hB
         have H5:=Hd (show ValD.At (w5.alloc (.cells cs1.toArray 39)) B N v.list[k] cs1 from h2.below hbx)
         have hl1:=Hd (show (Tryz.prog.info? 39).map (·.size)=some cs1.length by rw [h2.len];exact sizeV)
         have hl2:=Hd (show (Tryz.prog.info? 39).map (·.size)=some cs1.toArray.size by rw [List.size_toArray,h2.len];exact sizeV)
         have hl3:=Hd (show zeroV.size=cs1.toArray.size by show 13=cs1.toArray.size;rw [List.size_toArray,h2.len])
         have hone:=Hd (show cs1.toArray.all (·.oneCell')=true from Go.all_oneCell_toArray h2.oneCell)
         have HRR:=Hd (show (if (lookD m v.list[k] x).2=0 then kidsL (lookD m) ((v.list++v.fields.map (·.2)).drop (k+1)) (lookD m v.list[k] x).1 else lookD m v.list[k] x)=(y,z) by have h:=HRES.out;rw [drop_list hlt] at h;exact h)
         have hrng:=lookD_range m v.list[k] x hx0 hx1
         obtain ⟨y1,z1,hyz⟩:∃ y1 z1,lookD m v.list[k] x=(y1,z1):=⟨_,_,rfl⟩
         have HYZ:=Hd hyz
         have HR4:=HRR.out
         rw [hyz] at HR4 hrng
         simp only at HR4 hrng
         obtain ⟨hr0,hr1⟩:=hrng
         have HC5:=Hd (HCC.out.below (belowBox w5 (.cells cs1.toArray 39)))
         have HF5:=Hd (HF.out.trans (FB.of_below (belowBox w5 (.cells cs1.toArray 39))))
         have R6:=Hd (R5.out.then (belowBox w5 (.cells cs1.toArray 39)) hs5)
         have hs6:w.heap.size<(w5.alloc (.cells cs1.toArray 39)).heap.size:=by rw [World.size_alloc];omega
         clear h1 h2 hget HRR HRES hyz hbw hbx
         go_wp2_with (first
          | (refine wpList_load_mid rfl 39 _ rfl b (o+k * 13) rfl cs1 _ HR.out Tryz.underlying39 rfl hl1.out ?_)
          | (refine wpList_store_new rfl 39 _ _ rfl zeroV cs1.toArray rfl rfl hl2.out hl3.out hone.out ?_)
          | (refine wpList_load_mid rfl 39 _ rfl w5.heap.size 0 rfl cs1 _ (box_at w5 cs1 39).range Tryz.underlying39 rfl hl1.out ?_))
         refine (IH.out v.list[k] _ B N cs1 (depth+1) x pb y1 z1 (by have:=HD.out;omega) hx0 hx1 hN (by omega) hpb HC5.out H5.out HYZ.out).mono ?_
         rintro e1 w6 ⟨rfl,hf6,x6,hc6,hx6⟩
         have HF6:=Hd (HF5.out.trans hf6)
         have HC6:=Hd hc6
         have R7:=Hd (hf6.cells R6.out hs6 (by omega))
         have hs7:w.heap.size<w6.heap.size:=Nat.lt_of_lt_of_le hs6 hf6.size
         clear hf6 hc6 HC5 HF5 R6 H5 HR R5 HF HCC hs6
         by_cases hz:z1=0
         ·rw [if_pos hz] at HR4
          have HRES:=Hd HR4
          have hx7:=hx6 hz
          simp only at hx7
          subst hz hx7
          clear HR4 hx6
          go_wp2_with fail
          go_roundw
          case rel=>exact ⟨x6,k+1,by omega,by go_num,hr0,hr1,HRES,HF6,HC6,R7,hs7⟩
          case measure=>simp [intOf];omega
         ·rw [if_neg hz] at HR4
          obtain ⟨rfl,rfl⟩:y1=y∧z1=z:=by simpa using HR4
          have hz':(z1==0)=false:=by simpa using hz
          have hz2:(z1 != 0)=true:=by simpa using hz
          have HZ:=Hd hz
          clear hz HR4 hx6
          go_wp2_with fail
          go_ret
          exact chk_end HZ.out HF6.out HC6.out
        ·obtain rfl:k=v.list.length:=by omega
         have HRES1:=Hd (show kidsL (lookD m) ((v.list++v.fields.map (·.2)).drop (v.list.length+0)) x=(y,z) from HRES.out)
         have d12:=R5.out.get0 HH.out.fields
         clear HRES
         go_wp2_with fail
         go_simp
         go_loopw [107] (fun i wr=>∃ (x:Int) (k:Nat),k≤v.fields.length∧i=.int .i64 k∧0≤x∧x≤65536∧Hid (kidsL (lookD m) ((v.list++v.fields.map (·.2)).drop (v.list.length+k)) x=(y,z))∧Hid (FB pb w wr)∧Hid (CellI wr pb x)∧w.heap.size<wr.heap.size) (fun i _=>v.fields.length-(intOf i).toNat)
         case atStart=>exact ⟨x,0,by omega,rfl,hx0,hx1,HRES1,HF,HCC,hs5⟩
         case round =>
          obtain ⟨w7,rfl⟩:∃ w7,w7=wr:=⟨wr,rfl⟩
          clear HRES1 HF HCC R5 hs5 d12 hx0 hx1
          obtain ⟨x,k,hk,rfl,hx0,hx1,HRES,HF,HCC,hs5⟩:=hrel
          by_cases hlt:k<v.fields.length
          ·obtain ⟨b,o,rfl,hb,hget⟩:=HH.out.atFields.get (by intro h;simp [h] at hlt)
           obtain ⟨cs1,hkey,h1,h2⟩:=hget k hlt
           obtain ⟨ky,hky⟩:∃ ky,ky=v.fields[k].1:=⟨_,rfl⟩
           rw [← hky] at h1 hkey
           clear hky
           have hbw:Below B w w7:=HF.out.below hpb hB
           have HR:=Hd (h1.below hbw hb).range
           have hbx:Below B w (w7.alloc (.cells (.string ky::cs1).toArray 76)):=(HF.out.trans (FB.of_below (belowBox w7 _))).below hpb hB
           have HX:=Hd (show ValD.At (w7.alloc (.cells (.string ky::cs1).toArray 76)) B N v.fields[k].2 cs1 from h2.below hbx)
           have hl1:=Hd (show (Tryz.prog.info? 76).map (·.size)=some (Value.string ky::cs1).length by rw [List.length_cons,h2.len];exact sizeF)
           have hl2:=Hd (show (Tryz.prog.info? 76).map (·.size)=some (Value.string ky::cs1).toArray.size by rw [List.size_toArray,List.length_cons,h2.len];exact sizeF)
           have hl3:=Hd (show zeroF.size=(Value.string ky::cs1).toArray.size by show 14=_;rw [List.size_toArray,List.length_cons,h2.len])
           have hl4:=Hd (show (Tryz.prog.info? 39).map (·.size)=some cs1.length by rw [h2.len];exact sizeV)
           have hone:=Hd (show (Value.string ky::cs1).toArray.all (·.oneCell')=true from Go.all_oneCell_toArray (fun u hu=>by
            rcases List.mem_cons.1 hu with rfl | hu
            ·rfl
            ·exact h2.oneCell u hu))
           have RX:=Hd (CellsAt.tail (box_at w7 (.string ky::cs1) 76)).range
           have HRR:=Hd (show (if (lookD m v.fields[k].2 x).2=0 then kidsL (lookD m) ((v.list++v.fields.map (·.2)).drop (v.list.length+(k+1))) (lookD m v.fields[k].2 x).1 else lookD m v.fields[k].2 x)=(y,z) by have h:=HRES.out;rw [drop_fields hlt] at h;exact h)
           have hrng:=lookD_range m v.fields[k].2 x hx0 hx1
           obtain ⟨y1,z1,hyz⟩:∃ y1 z1,lookD m v.fields[k].2 x=(y1,z1):=⟨_,_,rfl⟩
           have HYZ:=Hd hyz
           have HR4:=HRR.out
           rw [hyz] at HR4 hrng
           simp only at HR4 hrng
           obtain ⟨hr0,hr1⟩:=hrng
           have HC5:=Hd (HCC.out.below (belowBox w7 (.cells (.string ky::cs1).toArray 76)))
           have HF5:=Hd (HF.out.trans (FB.of_below (belowBox w7 (.cells (.string ky::cs1).toArray 76))))
           have hs6:w.heap.size<(w7.alloc (.cells (.string ky::cs1).toArray 76)).heap.size:=by rw [World.size_alloc];omega
           clear h1 h2 hget HRR HRES hyz hbw hbx
           go_wp2_with (first
            | (refine wpList_load_mid rfl 76 _ rfl b (o+k * 14) rfl (.string ky::cs1) _ HR.out Tryz.underlying76 rfl hl1.out ?_)
            | (refine wpList_store_new rfl 76 _ _ rfl zeroF (.string ky::cs1).toArray rfl rfl hl2.out hl3.out hone.out ?_)
            | (refine wpList_load_mid rfl 39 _ rfl w7.heap.size 1 rfl cs1 _ RX.out Tryz.underlying39 rfl hl4.out ?_))
           refine (IH.out v.fields[k].2 _ B N cs1 (depth+1) x pb y1 z1 (by have:=HD.out;omega) hx0 hx1 hN (by omega) hpb HC5.out HX.out HYZ.out).mono ?_
           rintro e1 w6 ⟨rfl,hf6,x6,hc6,hx6⟩
           have HF6:=Hd (HF5.out.trans hf6)
           have HC6:=Hd hc6
           have hs7:w.heap.size<w6.heap.size:=Nat.lt_of_lt_of_le hs6 hf6.size
           clear hf6 hc6 HC5 HF5 HX HR HF HCC hs6 RX
           by_cases hz:z1=0
           ·rw [if_pos hz] at HR4
            have HRES:=Hd HR4
            have hx7:=hx6 hz
            simp only at hx7
            subst hz hx7
            clear HR4 hx6
            go_wp2_with fail
            go_roundw
            case rel=>exact ⟨x6,k+1,by omega,by go_num,hr0,hr1,HRES,HF6,HC6,hs7⟩
            case measure=>simp [intOf];omega
           ·rw [if_neg hz] at HR4
            obtain ⟨rfl,rfl⟩:y1=y∧z1=z:=by simpa using HR4
            have hz':(z1==0)=false:=by simpa using hz
            have hz2:(z1 != 0)=true:=by simpa using hz
            have HZ:=Hd hz
            clear hz HR4 hx6
            go_wp2_with fail
            go_ret
            exact chk_end HZ.out HF6.out HC6.out
          ·obtain rfl:k=v.fields.length:=by omega
           have HR4:=HRES.out
           rw [drop_all] at HR4
           obtain ⟨rfl,rfl⟩:x=y∧(0:Int)=z:=by simpa [kidsL] using HR4
           clear HR4
           go_wp2_with fail
           go_ret
           exact ⟨rfl,HF.out,_,HCC.out,fun _=>rfl⟩
      ·rw [if_neg hk0'] at HR3
       obtain ⟨rfl,rfl⟩:n=y∧k1=z:=by simpa using HR3
       have hk2:(k1==0)=false:=by simpa using hk0'
       have hk3:(k1 != 0)=true:=by simpa using hk0'
       clear HR3 HR2 hk1 HX
       go_wp2_with fail
       go_ret
       exact chk_end hk0' HF4.out HC4.out
   ·have HX:=HR2.out
    have hob:ownB v=false:=by
     cases h:ownB v
     ·rfl
     ·have:=(ownB_iff v).1 h;omega
    rw [oneE_6 hob,if_neg (by decide)] at HX
    obtain ⟨rfl,rfl⟩:n=y∧(6:Int)=z:=by simpa using HX
    have hcase:v.kind<0∨(¬ v.kind<0∧8≤v.kind):=by omega
    clear HX hob hkr
    rcases hcase with g1 | ⟨g1,g2⟩
    all_goals
     go_enter Tryz.func56,Tryz.ntmps56
     go_wp2_with fail
     go_ret
     exact chk_end (by decide) HF1.out HC1.out
set_option maxRecDepth 100000 in
set_option maxHeartbeats 1600000 in
theorem vcheck_exact (v:ValD) (w:World) (B N:Nat) (cs:List Value) (hN:N≤4294967296) (hB:B≤w.heap.size) (hv:ValD.At w B N v cs) :
 Calls Tryz.prog 33 #[.agg cs.toArray] w (IntB (chkD v) w):=by
 have HV:=Hd hv
 have hl:=Hd (show (Tryz.prog.info? 39).map (·.size)=some cs.length by rw [hv.len];exact sizeV)
 have H0:=Hd (show Below w.heap.size w (w.alloc (.cells cs.toArray 39)) from belowBox w _)
 have H1:=Hd (belowThen H0.out (belowBox (w.alloc (.cells cs.toArray 39)) (.cells #[.int .i64 0] 3)))
 have HS:=Hd (show ((w.alloc (.cells cs.toArray 39)).alloc (.cells #[.int .i64 0] 3)).heap.size=w.heap.size+1+1 by rw [World.size_alloc,World.size_alloc])
 have HC:=Hd (show CellI ((w.alloc (.cells cs.toArray 39)).alloc (.cells #[.int .i64 0] 3)) (w.heap.size+1) 0 from by
  have h:=heap_alloc_new (w.alloc (.cells cs.toArray 39)) (.cells #[.int .i64 0] 3)
  rw [World.size_alloc] at h
  exact h)
 have R0:=Hd ((box_at w cs 39).then (belowBox (w.alloc (.cells cs.toArray 39)) (.cells #[.int .i64 0] 3)) (by rw [World.size_alloc];omega))
 obtain ⟨x,y,hxy⟩:∃ x y,lookD 48 v 0=(x,y):=⟨_,_,rfl⟩
 have HXY:=Hd hxy
 have HCK:=Hd (show chkD v=y by unfold chkD;rw [hxy])
 clear hv hxy
 go_enter Tryz.func33,Tryz.ntmps33
 go_wp2_with ((with_reducible show wpList _ _ _ (⟨some 4,_,_,_,_,_⟩::_) _ _);refine wpList_load_mid rfl 39 _ rfl w.heap.size 0 rfl cs _ R0.out.range Tryz.underlying39 rfl hl.out ?_)
 refine (check_exact 48 v _ B N cs 1 0 (w.heap.size+1) x y (by omega) (by omega) (by omega) hN (by rw [HS.out];omega) (by omega) HC.out (HV.out.below (H1.out.mono hB)) HXY.out).mono ?_
 rintro e w1 ⟨rfl,hf,_⟩
 have H2:=Hd (show Below w.heap.size w w1 from ⟨hf.os.trans H1.out.os,hf.tape.trans H1.out.tape,hf.output.trans H1.out.output,Nat.le_trans H1.out.size hf.size,fun k hk=>(hf.block k (Nat.lt_of_lt_of_le hk H1.out.size) (by omega)).trans (H1.out.block k hk)⟩)
 clear hf
 go_wp2_with fail
 go_ret
 exact ⟨ret_int (by rw [HCK.out]),H2.out⟩
end Go.Proofs.YtniljgkkcnekgaaGreatDoor
