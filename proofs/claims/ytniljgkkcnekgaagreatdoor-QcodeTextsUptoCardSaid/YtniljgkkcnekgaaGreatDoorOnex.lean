/- The reference's validity of values (datakitref07.one, look, Check): what they compute, exactly. -/
import Derived.Test.YtniljgkkcnekgaaGreatDoorProg
import Derived.Test.YtniljgkkcnekgaaGreatDoorGA
import Derived.Test.YtniljgkkcnekgaaGreatDoorGB
import Derived.Test.YtniljgkkcnekgaaGreatDoorGU
import Derived.Test.YtniljgkkcnekgaaGreatDoorGF
import Derived.Test.YtniljgkkcnekgaaGreatDoorHN
import Derived.Test.YtniljgkkcnekgaaGreatDoorGH
import Derived.Test.YtniljgkkcnekgaaGreatDoorGK
namespace Go.Proofs.YtniljgkkcnekgaaGreatDoor
open Go.RowKit
theorem oneE_6 {v:ValD} (h:ownB v=false):oneE v=6:=by simp [oneE,h]
theorem oneE_2 {v:ValD} (h:ownB v=true) (h2:vdecB v.num=false∨(v.kind=3∧vtimeB v.time=false)):oneE v=2:=by
 unfold oneE
 rw [if_neg (by simp [h]),if_pos h2]
theorem oneE_5 {v:ValD} (h:ownB v=true) (h2:¬ (vdecB v.num=false∨(v.kind=3∧vtimeB v.time=false))) (h3:validS v.text=false):oneE v=5:=by
 unfold oneE
 rw [if_neg (by simp [h]),if_neg h2,if_pos h3]
theorem oneE_10 {v:ValD} (h:ownB v=true) (h2:¬ (vdecB v.num=false∨(v.kind=3∧vtimeB v.time=false))) (h3:validS v.text=true) (h4:65536<v.text.size∨65536<v.bytes.length):oneE v=10:=by
 unfold oneE
 rw [if_neg (by simp [h]),if_neg h2,if_neg (by simp [h3]),if_pos h4]
theorem oneE_k {v:ValD} (h:ownB v=true) (h2:¬ (vdecB v.num=false∨(v.kind=3∧vtimeB v.time=false))) (h3:validS v.text=true) (h4:¬ (65536<v.text.size∨65536<v.bytes.length)):oneE v=keysE [] (keyD v):=by
 unfold oneE
 rw [if_neg (by simp [h]),if_neg h2,if_neg (by simp [h3]),if_neg h4]
theorem keyD_eq (v:ValD):fstK v.fields=keyD v:=rfl
set_option maxRecDepth 100000 in
set_option maxHeartbeats 3200000 in
theorem one_exact (v:ValD) (w:World) (B N:Nat) (cs:List Value) (hN:N≤4294967296) (hB:B≤w.heap.size) (hv:ValD.At w B N v cs):Calls Tryz.prog 68 #[.agg cs.toArray] w (IntB (oneE v) w):=by
 obtain ⟨ya,la,va,yc,lc,vc,hh⟩:=hv.has
 have HV:=Hd hv
 have hds:v.num.digits.size≤N:=hh.own.2.2.2.2.2.2.1
 have hts:v.text.size≤N:=hh.own.2.2.2.2.2.2.2.1
 have hfs:v.fields.length≤N:=hh.own.2.2.2.2.2.2.2.2.2.2
 have HH:=Hd hh
 have hl:=Hd (show (Tryz.prog.info? 39).map (·.size)=some cs.length by rw [hv.len];exact sizeV)
 have HR:=Hd (box_at w cs 39)
 have H0:=Hd (show Below w.heap.size w (w.alloc (.cells cs.toArray 39)) from belowBox w _)
 clear hh hv
 go_enter Tryz.func68,Tryz.ntmps68
 go_wp2_with ((with_reducible show wpList _ _ _ (⟨some 3,_,_,_,_,_⟩::_) _ _);refine wpList_load_mid rfl 39 _ rfl w.heap.size 0 rfl cs _ (box_at w cs 39).range Tryz.underlying39 rfl hl.out ?_)
 refine (own_exact v _ B N cs (HV.out.below (H0.out.mono hB))).mono ?_
 rintro e w1 ⟨rfl,hb1⟩
 have hs0:w.heap.size<(w.alloc (.cells cs.toArray 39)).heap.size:=by rw [World.size_alloc];omega
 have R1:=Hd (HR.out.then hb1 hs0)
 have H1:=Hd (belowThen H0.out hb1)
 have hs1:w.heap.size<w1.heap.size:=Nat.lt_of_lt_of_le hs0 hb1.size
 clear hb1 HR H0 hs0
 cases ho:ownB v with
 | false =>
   have HX:=Hd (oneE_6 ho)
   clear ho
   go_wp2_with fail
   go_ret
   exact ⟨ret_int (by rw [HX.out]),H1.out⟩
 | true =>
 have HO:=Hd ho
 clear ho
 have d2:=R1.out.get0 HH.out.neg
 have d3:=R1.out.get0 HH.out.digits
 have d4:=R1.out.get0 HH.out.exp
 go_wp2_with fail
 refine (dec02_exact v.num _ (by unfold maxLen;omega)).mono ?_
 rintro e w2 ⟨rfl,hb2⟩
 have R2:=Hd (R1.out.then hb2 hs1)
 have H2:=Hd (belowThen H1.out hb2)
 have hs2:w.heap.size<w2.heap.size:=Nat.lt_of_lt_of_le hs1 hb2.size
 clear hb2 R1 H1 hs1 d2 d3 d4
 cases hd:vdecB v.num with
 | false =>
   have HX:=Hd (oneE_2 HO.out (.inl hd))
   clear hd
   go_wp2_with fail
   go_ret
   exact ⟨ret_int (by rw [HX.out]),H2.out⟩
 | true =>
 have HD:=Hd hd
 clear hd
 have d0:=R2.out.get0 HH.out.kind
 have d5:=R2.out.get0 HH.out.tkind
 have d6:=R2.out.get0 HH.out.day
 have d7:=R2.out.get0 HH.out.nano
 have d8:=R2.out.get0 HH.out.offset
 have d9:=R2.out.get0 HH.out.text
 have d10:=R2.out.get0 HH.out.bytes
 have d12:=R2.out.get0 HH.out.fields
 -- what stands behind the test of the time
 have rest:∀ w3:World,Below w2.heap.size w2 w3→w.heap.size<w3.heap.size∧Below w.heap.size w w3∧w3.cell? ⟨w.heap.size,9,none⟩=some (.string v.text)∧w3.cell? ⟨w.heap.size,10,none⟩=some (.slice ya v.bytes.length yc)∧w3.cell? ⟨w.heap.size,12,none⟩=some (.slice va v.fields.length vc):=fun w3 hb3 =>
  ⟨Nat.lt_of_lt_of_le hs2 hb3.size,belowThen H2.out hb3,(hb3.cell (p:=⟨w.heap.size,9,none⟩) hs2).trans d9,(hb3.cell (p:=⟨w.heap.size,10,none⟩) hs2).trans d10,(hb3.cell (p:=⟨w.heap.size,12,none⟩) hs2).trans d12⟩
 have REST:=Hd rest
 clear rest d9 d10 d12
 by_cases hk:v.kind=3
 ·have HK:=Hd hk
  rw [hk] at d0
  go_wp2_with fail
  refine (valid05_ex v.time _).mono ?_
  rintro e w3 ⟨rfl,hb3⟩
  obtain ⟨hs3,h3,d9,d10,d12⟩:=REST.out _ hb3
  have H3:=Hd h3
  clear hb3 h3 d0 d5 d6 d7 d8 R2 H2 hs2
  cases ht:vtimeB v.time with
  | false =>
    have HX:=Hd (oneE_2 HO.out (.inr ⟨HK.out,ht⟩))
    clear ht
    go_wp2_with fail
    go_ret
    exact ⟨ret_int (by rw [HX.out]),H3.out⟩
  | true =>
  have HQ:=Hd (show ¬ (vdecB v.num=false∨(v.kind=3∧vtimeB v.time=false)) by rw [HD.out,ht];simp)
  clear ht hk
  go_wp2_with fail
  refine (valid03_ex v.text _ (by omega)).mono ?_
  rintro e w4 ⟨rfl,hb4⟩
  have H4:=Hd (belowThen H3.out hb4)
  have d9':=(hb4.cell (p:=⟨w.heap.size,9,none⟩) hs3).trans d9
  have d10':=(hb4.cell (p:=⟨w.heap.size,10,none⟩) hs3).trans d10
  have d12':=(hb4.cell (p:=⟨w.heap.size,12,none⟩) hs3).trans d12
  clear hb4 d9 d10 d12
  cases hx:validS v.text with
  | false =>
    have HX:=Hd (oneE_5 HO.out HQ.out hx)
    clear hx
    go_wp2_with fail
    go_ret
    exact ⟨ret_int (by rw [HX.out]),H4.out⟩
  | true =>
  have HT:=Hd hx
  clear hx
  by_cases hsz:65536<v.text.size∨65536<v.bytes.length
  ·have HX:=Hd (oneE_10 HO.out HQ.out HT.out hsz)
   have hsz2:65536<v.text.size∨(¬ 65536<v.text.size∧65536<v.bytes.length):=by omega
   clear hsz
   rcases hsz2 with g1 | ⟨g1,g2⟩
   all_goals
    go_wp2_with fail
    go_ret
    exact ⟨ret_int (by rw [HX.out]),H4.out⟩
  ·have HX:=Hd (oneE_k HO.out HQ.out HT.out hsz)
   have g1:¬ 65536<v.text.size:=by omega
   have g2:¬ 65536<v.bytes.length:=by omega
   clear hsz
   go_wp2_with fail
   refine (keys07_ex v.fields va vc _ B N hN hfs (Nat.le_trans hB H4.out.size) (HH.out.atFields.below (H4.out.mono hB))).mono ?_
   rintro e w5 ⟨rfl,hb5⟩
   have H5:=Hd (belowThen H4.out hb5)
   clear hb5
   go_wp2_with fail
   go_ret
   exact ⟨ret_int (by rw [HX.out];rfl),H5.out⟩
 ·have HQ:=Hd (show ¬ (vdecB v.num=false∨(v.kind=3∧vtimeB v.time=false)) by rw [HD.out];simp [hk])
  have hk':(v.kind==3)=false:=by simpa using hk
  clear hk
  obtain ⟨hs3,h3,d9,d10,d12⟩:=REST.out _ (Below.refl _ _)
  have H3:=Hd h3
  clear h3 d5 d6 d7 d8 R2 H2 hs2
  go_wp2_with fail
  refine (valid03_ex v.text _ (by omega)).mono ?_
  rintro e w4 ⟨rfl,hb4⟩
  have H4:=Hd (belowThen H3.out hb4)
  have d9':=(hb4.cell (p:=⟨w.heap.size,9,none⟩) hs3).trans d9
  have d10':=(hb4.cell (p:=⟨w.heap.size,10,none⟩) hs3).trans d10
  have d12':=(hb4.cell (p:=⟨w.heap.size,12,none⟩) hs3).trans d12
  clear hb4 d9 d10 d12
  cases hx:validS v.text with
  | false =>
    have HX:=Hd (oneE_5 HO.out HQ.out hx)
    clear hx
    go_wp2_with fail
    go_ret
    exact ⟨ret_int (by rw [HX.out]),H4.out⟩
  | true =>
  have HT:=Hd hx
  clear hx
  by_cases hsz:65536<v.text.size∨65536<v.bytes.length
  ·have HX:=Hd (oneE_10 HO.out HQ.out HT.out hsz)
   have hsz2:65536<v.text.size∨(¬ 65536<v.text.size∧65536<v.bytes.length):=by omega
   clear hsz
   rcases hsz2 with g1 | ⟨g1,g2⟩
   all_goals
    go_wp2_with fail
    go_ret
    exact ⟨ret_int (by rw [HX.out]),H4.out⟩
  ·have HX:=Hd (oneE_k HO.out HQ.out HT.out hsz)
   have g1:¬ 65536<v.text.size:=by omega
   have g2:¬ 65536<v.bytes.length:=by omega
   clear hsz
   go_wp2_with fail
   refine (keys07_ex v.fields va vc _ B N hN hfs (Nat.le_trans hB H4.out.size) (HH.out.atFields.below (H4.out.mono hB))).mono ?_
   rintro e w5 ⟨rfl,hb5⟩
   have H5:=Hd (belowThen H4.out hb5)
   clear hb5
   go_wp2_with fail
   go_ret
   exact ⟨ret_int (by rw [HX.out];rfl),H5.out⟩
def LokX (r:Int×Int) (w:World) (e:Ending) (w':World):Prop:=e=.returned (.tuple #[.int .i64 r.1,.int .i64 r.2])∧Below w.heap.size w w'
set_option maxRecDepth 100000 in
set_option maxHeartbeats 1600000 in
theorem look_exact (m:Nat):∀ (v:ValD) (w:World) (B N:Nat) (cs:List Value) (depth:Nat) (seen:Int) (y z:Int),depth+m=49→0≤seen→seen≤65536→N≤4294967296→B≤w.heap.size→ValD.At w B N v cs→lookD m v seen=(y,z) →
 Calls Tryz.prog 41 #[.agg cs.toArray,.int .i64 depth,.int .i64 seen] w (LokX (y,z) w):=by
 induction m with
 | zero =>
   intro v w B N cs depth seen y z hd hs0 hs1 hN hB hv hr
   obtain ⟨rfl,rfl⟩:seen=y∧(9:Int)=z:=by simpa [lookD] using hr
   clear hv hr
   go_enter Tryz.func41,Tryz.ntmps41
   go_wp2_with fail
   go_ret2
   exact ⟨rfl,belowBox w _⟩
 | succ m ih =>
   intro v w B N cs depth seen y z hd hs0 hs1 hN hB hv hr
   have IH:=Hd ih
   have hd':depth≤48:=by omega
   have HD:=Hd hd
   have HV:=Hd hv
   have HRES:=Hd (show (if 65536≤seen then (seen,10) else if oneE v=0 then kidsL (lookD m) (kidsD v) (seen+1) else (seen,oneE v))=(y,z) from hr)
   have hl:=Hd (show (Tryz.prog.info? 39).map (·.size)=some cs.length by rw [hv.len];exact sizeV)
   have H0:=Hd (show Below w.heap.size w (w.alloc (.cells cs.toArray 39)) from belowBox w _)
   clear ih hv hd hr
   by_cases hs:65536≤seen
   ·have HX:=HRES.out
    rw [if_pos hs] at HX
    obtain ⟨rfl,rfl⟩:seen=y∧(10:Int)=z:=by simpa using HX
    clear HX
    go_enter Tryz.func41,Tryz.ntmps41
    go_wp2_with fail
    go_ret2
    exact ⟨rfl,H0.out⟩
   have HR2:=Hd (show (if oneE v=0 then kidsL (lookD m) (kidsD v) (seen+1) else (seen,oneE v))=(y,z) by have:=HRES.out;rwa [if_neg hs] at this)
   clear HRES
   go_enter Tryz.func41,Tryz.ntmps41
   go_wp2_with ((with_reducible show wpList _ _ _ (⟨_,.load 39 _,_,_,_,_⟩::_) _ _);refine wpList_load_mid rfl 39 _ rfl w.heap.size 0 rfl cs _ (box_at w cs 39).range Tryz.underlying39 rfl hl.out ?_)
   refine (one_exact v _ B N cs hN (Nat.le_trans hB H0.out.size) (HV.out.below (H0.out.mono hB))).mono ?_
   rintro e w1 ⟨rfl,hb1⟩
   have hs0':w.heap.size<(w.alloc (.cells cs.toArray 39)).heap.size:=by rw [World.size_alloc];omega
   have R1:=Hd ((box_at w cs 39).then hb1 hs0')
   have H1:=Hd (belowThen H0.out hb1)
   clear hb1 H0 hs0'
   obtain ⟨k1,hk⟩:∃ k1,oneE v=k1:=⟨_,rfl⟩
   have HR3:=HR2.out
   rw [hk] at HR3 ⊢
   by_cases hk1:k1=0
   ·subst hk1
    rw [if_pos rfl] at HR3
    have HRES:=Hd HR3
    clear HR3 HR2 hk
    go_wp2_with ((with_reducible show wpList _ _ _ (⟨_,.load 39 _,_,_,_,_⟩::_) _ _);refine wpList_load_mid rfl 39 _ rfl w.heap.size 0 rfl cs _ R1.out.range Tryz.underlying39 rfl hl.out ?_)
    refine (kids_any v _ B N cs hN (Nat.le_trans hB H1.out.size) (HV.out.below (H1.out.mono hB))).mono ?_
    rintro e w2 ⟨a,c,rfl,hvs,hb2⟩
    have H2:=Hd (belowThen H1.out hb2)
    have HS:=Hd hvs
    have hkl:=kids_len HV.out
    clear hb2 hvs R1 H1
    go_wp2_with fail
    go_simp
    go_loopw [2,10,11] (fun s i _ wr=>∃ (x:Int) (k:Nat),k≤(kidsD v).length∧s=.int .i64 x∧i=.int .i64 k∧0≤x∧x≤65536∧Hid (kidsL (lookD m) ((kidsD v).drop k) x=(y,z))∧Hid (Below w2.heap.size w2 wr)) (fun _ i _ _=>(kidsD v).length-(intOf i).toNat)
    case atStart=>exact ⟨_,0,by omega,rfl,rfl,by omega,by omega,HRES,Hd (Below.refl _ _)⟩
    case round =>
     obtain ⟨x,k,hk,rfl,rfl,hx0,hx1,HRES,HB⟩:=hrel
     by_cases hlt:k<(kidsD v).length
     ·obtain ⟨b,o,rfl,hb,hget⟩:=HS.out.get (by intro h;simp [h] at hlt)
      obtain ⟨cs1,h1,h2⟩:=hget k hlt
      have HR:=Hd (h1.below HB.out hb).range
      have H4:=Hd (h2.below HB.out)
      have hl1:=Hd (show (Tryz.prog.info? 39).map (·.size)=some cs1.length by rw [h2.len];exact sizeV)
      have HRR:=Hd (show (if (lookD m (kidsD v)[k] x).2=0 then kidsL (lookD m) ((kidsD v).drop (k+1)) (lookD m (kidsD v)[k] x).1 else lookD m (kidsD v)[k] x)=(y,z) by rw [← kidsL_drop];exact HRES.out)
      have hrng:=lookD_range m (kidsD v)[k] x hx0 hx1
      obtain ⟨y1,z1,hyz⟩:∃ y1 z1,lookD m (kidsD v)[k] x=(y1,z1):=⟨_,_,rfl⟩
      have HYZ:=Hd hyz
      have HR4:=HRR.out
      rw [hyz] at HR4 hrng
      simp only at HR4 hrng
      obtain ⟨hr0,hr1⟩:=hrng
      clear h1 h2 hget HRR HRES hyz
      by_cases hz:z1=0
      ·rw [if_pos hz] at HR4
       have HRES:=Hd HR4
       subst hz
       clear HR4
       go_wp2_with ((with_reducible show wpList _ _ _ (⟨_,.load 39 _,_,_,_,_⟩::_) _ _);refine wpList_load_mid rfl 39 _ rfl b (o+k * 13) rfl cs1 _ HR.out Tryz.underlying39 rfl hl1.out ?_)
       refine (IH.out _ _ w2.heap.size N _ (depth+1) x y1 0 (by have:=HD.out;omega) hx0 hx1 hN HB.out.size H4.out HYZ.out).mono ?_
       rintro e1 w3 ⟨rfl,hb3⟩
       have HB3:=Hd (belowThen HB.out hb3)
       clear hb3
       go_wp2_with fail
       go_roundw
       case rel=>exact ⟨y1,k+1,by omega,rfl,by go_num,hr0,hr1,HRES,HB3⟩
       case measure=>simp [intOf];omega
      ·rw [if_neg hz] at HR4
       obtain ⟨rfl,rfl⟩:y1=y∧z1=z:=by simpa using HR4
       have hz':(z1==0)=false:=by simpa using hz
       have hz2:(z1 != 0)=true:=by simpa using hz
       clear hz HR4
       go_wp2_with ((with_reducible show wpList _ _ _ (⟨_,.load 39 _,_,_,_,_⟩::_) _ _);refine wpList_load_mid rfl 39 _ rfl b (o+k * 13) rfl cs1 _ HR.out Tryz.underlying39 rfl hl1.out ?_)
       refine (IH.out _ _ w2.heap.size N _ (depth+1) x y1 z1 (by have:=HD.out;omega) hx0 hx1 hN HB.out.size H4.out HYZ.out).mono ?_
       rintro e1 w3 ⟨rfl,hb3⟩
       have HB3:=Hd (belowThen HB.out hb3)
       clear hb3
       go_wp2_with fail
       go_ret2
       exact ⟨rfl,belowThen H2.out HB3.out⟩
     ·obtain rfl:k=(kidsD v).length:=by omega
      have HR4:=HRES.out
      rw [kidsL_end] at HR4
      obtain ⟨rfl,rfl⟩:x=y∧(0:Int)=z:=by simpa using HR4
      clear HR4
      go_wp2_with fail
      go_ret2
      exact ⟨rfl,belowThen H2.out HB.out⟩
   ·rw [if_neg hk1] at HR3
    obtain ⟨rfl,rfl⟩:seen=y∧k1=z:=by simpa using HR3
    have hk1':(k1==0)=false:=by simpa using hk1
    have hk2:(k1 != 0)=true:=by simpa using hk1
    clear hk1 HR3 HR2 hk
    go_wp2_with fail
    go_ret2
    exact ⟨rfl,H1.out⟩
theorem check07_exact (v:ValD) (w:World) (B N:Nat) (cs:List Value) (hN:N≤4294967296) (hB:B≤w.heap.size) (hv:ValD.At w B N v cs) :
 Calls Tryz.prog 27 #[.agg cs.toArray] w (IntB (chkD v) w):=by
 have HV:=Hd hv
 have hl:=Hd (show (Tryz.prog.info? 39).map (·.size)=some cs.length by rw [hv.len];exact sizeV)
 have H0:=Hd (show Below w.heap.size w (w.alloc (.cells cs.toArray 39)) from belowBox w _)
 obtain ⟨x,y,hxy⟩:∃ x y,lookD 48 v 0=(x,y):=⟨_,_,rfl⟩
 have HXY:=Hd hxy
 have HC:=Hd (show chkD v=y by unfold chkD;rw [hxy])
 clear hv hxy
 go_enter Tryz.func27,Tryz.ntmps27
 go_wp2_with ((with_reducible show wpList _ _ _ (⟨_,.load 39 _,_,_,_,_⟩::_) _ _);refine wpList_load_mid rfl 39 _ rfl w.heap.size 0 rfl cs _ (box_at w cs 39).range Tryz.underlying39 rfl hl.out ?_)
 refine (look_exact 48 v _ B N cs 1 0 x y (by omega) (by omega) (by omega) hN (Nat.le_trans hB H0.out.size) (HV.out.below (H0.out.mono hB)) HXY.out).mono ?_
 rintro e w1 ⟨rfl,hb1⟩
 have H1:=Hd (belowThen H0.out hb1)
 clear hb1
 go_wp2_with fail
 go_ret
 exact ⟨ret_int (by rw [HC.out]),H1.out⟩
end Go.Proofs.YtniljgkkcnekgaaGreatDoor
