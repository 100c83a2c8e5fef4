/- The reference's validity of values (datakitref07.one, look, Check): what they compute, exactly. -/
import Derived.Test.YtiefeajappjnbaaGreatDoorGA
import Derived.Test.YtiefeajappjnbaaGreatDoorHQ
import Derived.Test.YtiefeajappjnbaaGreatDoorGB
import Derived.Test.YtiefeajappjnbaaGreatDoorGD
namespace Go.Proofs.YtiefeajappjnbaaGreatDoor
open Go.RowKit
theorem oo {v:ar} (h:fO v=false):du v=6:=by simp [du,h]
theorem oq {v:ar} (h:fO v=true) (h2:cN v.num=false∨(v.kind=3∧cM v.time=false)):du v=2:=by
 unfold du
 rw [if_neg (by simp [h]),if_pos h2]
theorem rh {v:ar} (h:fO v=true) (h2:¬ (cN v.num=false∨(v.kind=3∧cM v.time=false))) (h3:validS v.text=false):du v=5:=by
 unfold du
 rw [if_neg (by simp [h]),if_neg h2,if_pos h3]
theorem ot {v:ar} (h:fO v=true) (h2:¬ (cN v.num=false∨(v.kind=3∧cM v.time=false))) (h3:validS v.text=true) (h4:65536<v.text.size∨65536<v.bytes.length):du v=10:=by
 unfold du
 rw [if_neg (by simp [h]),if_neg h2,if_neg (by simp [h3]),if_pos h4]
theorem om {v:ar} (h:fO v=true) (h2:¬ (cN v.num=false∨(v.kind=3∧cM v.time=false))) (h3:validS v.text=true) (h4:¬ (65536<v.text.size∨65536<v.bytes.length)):du v=bJ [] (xe v):=by
 unfold du
 rw [if_neg (by simp [h]),if_neg h2,if_neg (by simp [h3]),if_neg h4]
theorem zS (v:ar):cT v.fields=xe v:=rfl
set_option maxRecDepth 100000 in
set_option maxHeartbeats 3200000 in
theorem uu (v:ar) (w:World) (B N:Nat) (cs:List Value) (hN:N≤4294967296) (hB:B≤w.heap.size) (hv:ar.At w B N v cs):Calls Tryz.prog 197 #[.agg cs.toArray] w (gK (du v) w):=by
 obtain ⟨ya,la,va,yc,lc,vc,hh⟩:=hv.has
 have HV:=Hd hv
 have hds:v.num.digits.size≤N:=hh.own.2.2.2.2.2.2.1
 have hts:v.text.size≤N:=hh.own.2.2.2.2.2.2.2.1
 have hfs:v.fields.length≤N:=hh.own.2.2.2.2.2.2.2.2.2.2
 have HH:=Hd hh
 have hl:=Hd (show (Tryz.prog.info? 30).map (·.size)=some cs.length by rw [hv.len];exact bM)
 have HR:=Hd (aA w cs 30)
 have H0:=Hd (show Below w.heap.size w (w.alloc (.cells cs.toArray 30)) from af w _)
 clear hh hv
 go_enter Tryz.func197,Tryz.ntmps197
 go_wp2_with ((with_reducible show wpList _ _ _ (⟨some 3,_,_,_,_,_⟩::_) _ _);refine wpList_load_mid rfl 30 _ rfl w.heap.size 0 rfl cs _ (aA w cs 30).range Tryz.underlying30 rfl hl.out ?_)
 refine (uo v _ B N cs (HV.out.below (H0.out.mono hB))).mono ?_
 rintro e w1 ⟨rfl,hb1⟩
 have hs0:w.heap.size<(w.alloc (.cells cs.toArray 30)).heap.size:=by rw [World.size_alloc];omega
 have R1:=Hd (HR.out.then hb1 hs0)
 have H1:=Hd (ae H0.out hb1)
 have hs1:w.heap.size<w1.heap.size:=Nat.lt_of_lt_of_le hs0 hb1.size
 clear hb1 HR H0 hs0
 cases ho:fO v with
 | false =>
   have HX:=Hd (oo ho)
   clear ho
   go_wp2_with fail
   go_ret
   exact ⟨aP (by rw [HX.out]),H1.out⟩
 | true =>
 have HO:=Hd ho
 clear ho
 have d2:=R1.out.get0 HH.out.neg
 have d3:=R1.out.get0 HH.out.digits
 have d4:=R1.out.get0 HH.out.exp
 go_wp2_with fail
 refine (qu v.num _ (by unfold maxLen;omega)).mono ?_
 rintro e w2 ⟨rfl,hb2⟩
 have R2:=Hd (R1.out.then hb2 hs1)
 have H2:=Hd (ae H1.out hb2)
 have hs2:w.heap.size<w2.heap.size:=Nat.lt_of_lt_of_le hs1 hb2.size
 clear hb2 R1 H1 hs1 d2 d3 d4
 cases hd:cN v.num with
 | false =>
   have HX:=Hd (oq HO.out (.inl hd))
   clear hd
   go_wp2_with fail
   go_ret
   exact ⟨aP (by rw [HX.out]),H2.out⟩
 | true =>
 have HD:=Hd hd
 clear hd
 have d0:=R2.out.get0 HH.out.kind
 have d5:=R2.out.get0 HH.out.tkind
 have d6:=R2.out.get0 HH.out.day
 have d7:=R2.out.get0 HH.out.nano
 have d8:=R2.out.get0 HH.out.offset
 have d9:=R2.out.get0 HH.out.text
 have d10:=R2.out.get0 HH.out.bytes
 have d12:=R2.out.get0 HH.out.fields
 -- what stands behind the test of the time
 have rest:∀ w3:World,Below w2.heap.size w2 w3→w.heap.size<w3.heap.size∧Below w.heap.size w w3∧w3.cell? ⟨w.heap.size,9,none⟩=some (.string v.text)∧w3.cell? ⟨w.heap.size,10,none⟩=some (.slice ya v.bytes.length yc)∧w3.cell? ⟨w.heap.size,12,none⟩=some (.slice va v.fields.length vc):=fun w3 hb3 =>
  ⟨Nat.lt_of_lt_of_le hs2 hb3.size,ae H2.out hb3,(hb3.cell (p:=⟨w.heap.size,9,none⟩) hs2).trans d9,(hb3.cell (p:=⟨w.heap.size,10,none⟩) hs2).trans d10,(hb3.cell (p:=⟨w.heap.size,12,none⟩) hs2).trans d12⟩
 have REST:=Hd rest
 clear rest d9 d10 d12
 by_cases hk:v.kind=3
 ·have HK:=Hd hk
  rw [hk] at d0
  go_wp2_with fail
  refine (qW v.time _).mono ?_
  rintro e w3 ⟨rfl,hb3⟩
  obtain ⟨hs3,h3,d9,d10,d12⟩:=REST.out _ hb3
  have H3:=Hd h3
  clear hb3 h3 d0 d5 d6 d7 d8 R2 H2 hs2
  cases ht:cM v.time with
  | false =>
    have HX:=Hd (oq HO.out (.inr ⟨HK.out,ht⟩))
    clear ht
    go_wp2_with fail
    go_ret
    exact ⟨aP (by rw [HX.out]),H3.out⟩
  | true =>
  have HQ:=Hd (show ¬ (cN v.num=false∨(v.kind=3∧cM v.time=false)) by rw [HD.out,ht];simp)
  clear ht hk
  go_wp2_with fail
  refine (gp v.text _ (by omega)).mono ?_
  rintro e w4 ⟨rfl,hb4⟩
  have H4:=Hd (ae H3.out hb4)
  have d9':=(hb4.cell (p:=⟨w.heap.size,9,none⟩) hs3).trans d9
  have d10':=(hb4.cell (p:=⟨w.heap.size,10,none⟩) hs3).trans d10
  have d12':=(hb4.cell (p:=⟨w.heap.size,12,none⟩) hs3).trans d12
  clear hb4 d9 d10 d12
  cases hx:validS v.text with
  | false =>
    have HX:=Hd (rh HO.out HQ.out hx)
    clear hx
    go_wp2_with fail
    go_ret
    exact ⟨aP (by rw [HX.out]),H4.out⟩
  | true =>
  have HT:=Hd hx
  clear hx
  by_cases hsz:65536<v.text.size∨65536<v.bytes.length
  ·have HX:=Hd (ot HO.out HQ.out HT.out hsz)
   have hsz2:65536<v.text.size∨(¬ 65536<v.text.size∧65536<v.bytes.length):=by omega
   clear hsz
   rcases hsz2 with g1 | ⟨g1,g2⟩
   all_goals
    go_wp2_with fail
    go_ret
    exact ⟨aP (by rw [HX.out]),H4.out⟩
  ·have HX:=Hd (om HO.out HQ.out HT.out hsz)
   have g1:¬ 65536<v.text.size:=by omega
   have g2:¬ 65536<v.bytes.length:=by omega
   clear hsz
   go_wp2_with fail
   refine (nA v.fields va vc _ B N hN hfs (Nat.le_trans hB H4.out.size) (HH.out.atFields.below (H4.out.mono hB))).mono ?_
   rintro e w5 ⟨rfl,hb5⟩
   have H5:=Hd (ae H4.out hb5)
   clear hb5
   go_wp2_with fail
   go_ret
   exact ⟨aP (by rw [HX.out];rfl),H5.out⟩
 ·have HQ:=Hd (show ¬ (cN v.num=false∨(v.kind=3∧cM v.time=false)) by rw [HD.out];simp [hk])
  have hk':(v.kind==3)=false:=by simpa using hk
  clear hk
  obtain ⟨hs3,h3,d9,d10,d12⟩:=REST.out _ (Below.refl _ _)
  have H3:=Hd h3
  clear h3 d5 d6 d7 d8 R2 H2 hs2
  go_wp2_with fail
  refine (gp v.text _ (by omega)).mono ?_
  rintro e w4 ⟨rfl,hb4⟩
  have H4:=Hd (ae H3.out hb4)
  have d9':=(hb4.cell (p:=⟨w.heap.size,9,none⟩) hs3).trans d9
  have d10':=(hb4.cell (p:=⟨w.heap.size,10,none⟩) hs3).trans d10
  have d12':=(hb4.cell (p:=⟨w.heap.size,12,none⟩) hs3).trans d12
  clear hb4 d9 d10 d12
  cases hx:validS v.text with
  | false =>
    have HX:=Hd (rh HO.out HQ.out hx)
    clear hx
    go_wp2_with fail
    go_ret
    exact ⟨aP (by rw [HX.out]),H4.out⟩
  | true =>
  have HT:=Hd hx
  clear hx
  by_cases hsz:65536<v.text.size∨65536<v.bytes.length
  ·have HX:=Hd (ot HO.out HQ.out HT.out hsz)
   have hsz2:65536<v.text.size∨(¬ 65536<v.text.size∧65536<v.bytes.length):=by omega
   clear hsz
   rcases hsz2 with g1 | ⟨g1,g2⟩
   all_goals
    go_wp2_with fail
    go_ret
    exact ⟨aP (by rw [HX.out]),H4.out⟩
  ·have HX:=Hd (om HO.out HQ.out HT.out hsz)
   have g1:¬ 65536<v.text.size:=by omega
   have g2:¬ 65536<v.bytes.length:=by omega
   clear hsz
   go_wp2_with fail
   refine (nA v.fields va vc _ B N hN hfs (Nat.le_trans hB H4.out.size) (HH.out.atFields.below (H4.out.mono hB))).mono ?_
   rintro e w5 ⟨rfl,hb5⟩
   have H5:=Hd (ae H4.out hb5)
   clear hb5
   go_wp2_with fail
   go_ret
   exact ⟨aP (by rw [HX.out];rfl),H5.out⟩
def D9 (r:Int×Int) (w:World) (e:Ending) (w':World):Prop:=e=.returned (.tuple #[.int .i64 r.1,.int .i64 r.2])∧Below w.heap.size w w'
set_option maxRecDepth 100000 in
set_option maxHeartbeats 1600000 in
theorem rn (m:Nat):∀ (v:ar) (w:World) (B N:Nat) (cs:List Value) (depth:Nat) (seen:Int) (y z:Int),depth+m=49→0≤seen→seen≤65536→N≤4294967296→B≤w.heap.size→ar.At w B N v cs→bf m v seen=(y,z) →
 Calls Tryz.prog 159 #[.agg cs.toArray,.int .i64 depth,.int .i64 seen] w (D9 (y,z) w):=by
 induction m with
 | zero =>
   intro v w B N cs depth seen y z hd hs0 hs1 hN hB hv hr
   obtain ⟨rfl,rfl⟩:seen=y∧(9:Int)=z:=by simpa [bf] using hr
   clear hv hr
   go_enter Tryz.func159,Tryz.ntmps159
   go_wp2_with fail
   go_ret2
   exact ⟨rfl,af w _⟩
 | succ m ih =>
   intro v w B N cs depth seen y z hd hs0 hs1 hN hB hv hr
   have IH:=Hd ih
   have hd':depth≤48:=by omega
   have HD:=Hd hd
   have HV:=Hd hv
   have HRES:=Hd (show (if 65536≤seen then (seen,10) else if du v=0 then cX (bf m) (ca v) (seen+1) else (seen,du v))=(y,z) from hr)
   have hl:=Hd (show (Tryz.prog.info? 30).map (·.size)=some cs.length by rw [hv.len];exact bM)
   have H0:=Hd (show Below w.heap.size w (w.alloc (.cells cs.toArray 30)) from af w _)
   clear ih hv hd hr
   by_cases hs:65536≤seen
   ·have HX:=HRES.out
    rw [if_pos hs] at HX
    obtain ⟨rfl,rfl⟩:seen=y∧(10:Int)=z:=by simpa using HX
    clear HX
    go_enter Tryz.func159,Tryz.ntmps159
    go_wp2_with fail
    go_ret2
    exact ⟨rfl,H0.out⟩
   have HR2:=Hd (show (if du v=0 then cX (bf m) (ca v) (seen+1) else (seen,du v))=(y,z) by have:=HRES.out;rwa [if_neg hs] at this)
   clear HRES
   go_enter Tryz.func159,Tryz.ntmps159
   go_wp2_with ((with_reducible show wpList _ _ _ (⟨_,.load 30 _,_,_,_,_⟩::_) _ _);refine wpList_load_mid rfl 30 _ rfl w.heap.size 0 rfl cs _ (aA w cs 30).range Tryz.underlying30 rfl hl.out ?_)
   refine (uu v _ B N cs hN (Nat.le_trans hB H0.out.size) (HV.out.below (H0.out.mono hB))).mono ?_
   rintro e w1 ⟨rfl,hb1⟩
   have hs0':w.heap.size<(w.alloc (.cells cs.toArray 30)).heap.size:=by rw [World.size_alloc];omega
   have R1:=Hd ((aA w cs 30).then hb1 hs0')
   have H1:=Hd (ae H0.out hb1)
   clear hb1 H0 hs0'
   obtain ⟨k1,hk⟩:∃ k1,du v=k1:=⟨_,rfl⟩
   have HR3:=HR2.out
   rw [hk] at HR3 ⊢
   by_cases hk1:k1=0
   ·subst hk1
    rw [if_pos rfl] at HR3
    have HRES:=Hd HR3
    clear HR3 HR2 hk
    go_wp2_with ((with_reducible show wpList _ _ _ (⟨_,.load 30 _,_,_,_,_⟩::_) _ _);refine wpList_load_mid rfl 30 _ rfl w.heap.size 0 rfl cs _ R1.out.range Tryz.underlying30 rfl hl.out ?_)
    refine (wX v _ B N cs hN (Nat.le_trans hB H1.out.size) (HV.out.below (H1.out.mono hB))).mono ?_
    rintro e w2 ⟨a,c,rfl,hvs,hb2⟩
    have H2:=Hd (ae H1.out hb2)
    have HS:=Hd hvs
    have hkl:=wW HV.out
    clear hb2 hvs R1 H1
    go_wp2_with fail
    go_simp
    go_loopw [2,10,11] (fun s i _ wr=>∃ (x:Int) (k:Nat),k≤(ca v).length∧s=.int .i64 x∧i=.int .i64 k∧0≤x∧x≤65536∧Hid (cX (bf m) ((ca v).drop k) x=(y,z))∧Hid (Below w2.heap.size w2 wr)) (fun _ i _ _=>(ca v).length-(intOf i).toNat)
    case atStart=>exact ⟨_,0,by omega,rfl,rfl,by omega,by omega,HRES,Hd (Below.refl _ _)⟩
    case round =>
     obtain ⟨x,k,hk,rfl,rfl,hx0,hx1,HRES,HB⟩:=hrel
     by_cases hlt:k<(ca v).length
     ·obtain ⟨b,o,rfl,hb,hget⟩:=HS.out.get (by intro h;simp [h] at hlt)
      obtain ⟨cs1,h1,h2⟩:=hget k hlt
      have HR:=Hd (h1.below HB.out hb).range
      have H4:=Hd (h2.below HB.out)
      have hl1:=Hd (show (Tryz.prog.info? 30).map (·.size)=some cs1.length by rw [h2.len];exact bM)
      have HRR:=Hd (show (if (bf m (ca v)[k] x).2=0 then cX (bf m) ((ca v).drop (k+1)) (bf m (ca v)[k] x).1 else bf m (ca v)[k] x)=(y,z) by rw [← rq];exact HRES.out)
      have hrng:=fK m (ca v)[k] x hx0 hx1
      obtain ⟨y1,z1,hyz⟩:∃ y1 z1,bf m (ca v)[k] x=(y1,z1):=⟨_,_,rfl⟩
      have HYZ:=Hd hyz
      have HR4:=HRR.out
      rw [hyz] at HR4 hrng
      simp only at HR4 hrng
      obtain ⟨hr0,hr1⟩:=hrng
      clear h1 h2 hget HRR HRES hyz
      by_cases hz:z1=0
      ·rw [if_pos hz] at HR4
       have HRES:=Hd HR4
       subst hz
       clear HR4
       go_wp2_with ((with_reducible show wpList _ _ _ (⟨_,.load 30 _,_,_,_,_⟩::_) _ _);refine wpList_load_mid rfl 30 _ rfl b (o+k * 13) rfl cs1 _ HR.out Tryz.underlying30 rfl hl1.out ?_)
       refine (IH.out _ _ w2.heap.size N _ (depth+1) x y1 0 (by have:=HD.out;omega) hx0 hx1 hN HB.out.size H4.out HYZ.out).mono ?_
       rintro e1 w3 ⟨rfl,hb3⟩
       have HB3:=Hd (ae HB.out hb3)
       clear hb3
       go_wp2_with fail
       go_roundw
       case rel=>exact ⟨y1,k+1,by omega,rfl,by go_num,hr0,hr1,HRES,HB3⟩
       case measure=>simp [intOf];omega
      ·rw [if_neg hz] at HR4
       obtain ⟨rfl,rfl⟩:y1=y∧z1=z:=by simpa using HR4
       have hz':(z1==0)=false:=by simpa using hz
       have hz2:(z1 != 0)=true:=by simpa using hz
       clear hz HR4
       go_wp2_with ((with_reducible show wpList _ _ _ (⟨_,.load 30 _,_,_,_,_⟩::_) _ _);refine wpList_load_mid rfl 30 _ rfl b (o+k * 13) rfl cs1 _ HR.out Tryz.underlying30 rfl hl1.out ?_)
       refine (IH.out _ _ w2.heap.size N _ (depth+1) x y1 z1 (by have:=HD.out;omega) hx0 hx1 hN HB.out.size H4.out HYZ.out).mono ?_
       rintro e1 w3 ⟨rfl,hb3⟩
       have HB3:=Hd (ae HB.out hb3)
       clear hb3
       go_wp2_with fail
       go_ret2
       exact ⟨rfl,ae H2.out HB3.out⟩
     ·obtain rfl:k=(ca v).length:=by omega
      have HR4:=HRES.out
      rw [uB] at HR4
      obtain ⟨rfl,rfl⟩:x=y∧(0:Int)=z:=by simpa using HR4
      clear HR4
      go_wp2_with fail
      go_ret2
      exact ⟨rfl,ae H2.out HB.out⟩
   ·rw [if_neg hk1] at HR3
    obtain ⟨rfl,rfl⟩:seen=y∧k1=z:=by simpa using HR3
    have hk1':(k1==0)=false:=by simpa using hk1
    have hk2:(k1 != 0)=true:=by simpa using hk1
    clear hk1 HR3 HR2 hk
    go_wp2_with fail
    go_ret2
    exact ⟨rfl,H1.out⟩
theorem mO (v:ar) (w:World) (B N:Nat) (cs:List Value) (hN:N≤4294967296) (hB:B≤w.heap.size) (hv:ar.At w B N v cs) :
 Calls Tryz.prog 109 #[.agg cs.toArray] w (gK (dJ v) w):=by
 have HV:=Hd hv
 have hl:=Hd (show (Tryz.prog.info? 30).map (·.size)=some cs.length by rw [hv.len];exact bM)
 have H0:=Hd (show Below w.heap.size w (w.alloc (.cells cs.toArray 30)) from af w _)
 obtain ⟨x,y,hxy⟩:∃ x y,bf 48 v 0=(x,y):=⟨_,_,rfl⟩
 have HXY:=Hd hxy
 have HC:=Hd (show dJ v=y by unfold dJ;rw [hxy])
 clear hv hxy
 go_enter Tryz.func109,Tryz.ntmps109
 go_wp2_with ((with_reducible show wpList _ _ _ (⟨_,.load 30 _,_,_,_,_⟩::_) _ _);refine wpList_load_mid rfl 30 _ rfl w.heap.size 0 rfl cs _ (aA w cs 30).range Tryz.underlying30 rfl hl.out ?_)
 refine (rn 48 v _ B N cs 1 0 x y (by omega) (by omega) (by omega) hN (Nat.le_trans hB H0.out.size) (HV.out.below (H0.out.mono hB)) HXY.out).mono ?_
 rintro e w1 ⟨rfl,hb1⟩
 have H1:=Hd (ae H0.out hb1)
 clear hb1
 go_wp2_with fail
 go_ret
 exact ⟨aP (by rw [HC.out]),H1.out⟩
end Go.Proofs.YtiefeajappjnbaaGreatDoor

/- What a value's kind lets it have (value.extra): the same test as the reference's. -/
namespace Go.Proofs.YtiefeajappjnbaaGreatDoor
open Go.RowKit
set_option maxRecDepth 100000 in
set_option maxHeartbeats 3200000 in
theorem qk (v:ar) (w:World) (B N:Nat) (cs:List Value) (h0:0≤v.kind) (h7:v.kind<8) (hv:ar.At w B N v cs):Calls Tryz.prog 185 #[.agg cs.toArray] w (cq (!fO v) w):=by
 obtain ⟨ya,la,va,yc,lc,vc,hh⟩:=hv.has
 clear hv
 have c0:=hh.kind
 have c1:=hh.bool
 have c2:=hh.neg
 have c3:=hh.digits
 have c4:=hh.exp
 have c5:=hh.tkind
 have c6:=hh.day
 have c7:=hh.nano
 have c8:=hh.offset
 have c9:=hh.text
 have c10:=hh.bytes
 have c11:=hh.list
 have c12:=hh.fields
 clear hh
 have E1:=il v.num
 have E2:=iO v.time
 have G1:=dw
 have G2:=dE
 have HO:=Hd (fY v)
 generalize fO v=ob at *
 generalize eb v.num ⟨false,⟨#[]⟩,0⟩=db at *
 generalize ed v.time ⟨0,0,0,0⟩=tb at *
 generalize v.bytes.length=n1 at *
 generalize v.list.length=n2 at *
 generalize v.fields.length=n3 at *
 generalize v.kind=kd at *
 go_enter Tryz.func185,Tryz.ntmps185
 simp only [List.append_eq,List.cons_append,List.nil_append]
 go_wp2
 all_goals
  go_ret
  refine ⟨am (bz ?_),Below.box _ _⟩
  have hv:=HO.out
  clear HO E1 E2 G1 G2 c0 c1 c2 c3 c4 c5 c6 c7 c8 c9 c10 c11 c12
  go_light
  grind
end Go.Proofs.YtiefeajappjnbaaGreatDoor

/- The program's validity of values (value.check, Check): what they compute, exactly. -/
namespace Go.Proofs.YtiefeajappjnbaaGreatDoor
open Go.RowKit
structure FB (pb:Nat) (w w':World):Prop where
 os:w'.os=w.os
 tape:w'.tape=w.tape
 output:w'.output=w.output
 size:w.heap.size≤w'.heap.size
 block:∀ k,k<w.heap.size→k≠pb→w'.heap[k]?=w.heap[k]?
theorem FB.refl (pb:Nat) (w:World):FB pb w w:=⟨rfl,rfl,rfl,Nat.le_refl _,fun _ _ _=>rfl⟩
theorem FB.trans {pb:Nat} {a b c:World} (h:FB pb a b) (k:FB pb b c):FB pb a c :=
 ⟨k.os.trans h.os,k.tape.trans h.tape,k.output.trans h.output,Nat.le_trans h.size k.size,fun i hi hn=>(k.block i (Nat.lt_of_lt_of_le hi h.size) hn).trans (h.block i hi hn)⟩
theorem FB.of_below {pb:Nat} {a b:World} (h:Below a.heap.size a b):FB pb a b:=⟨h.os,h.tape,h.output,h.size,fun k hk _=>h.block k hk⟩
theorem FB.setCell {pb:Nat} (a:World) (o:Nat) (u:Value):FB pb a (a.setCell ⟨pb,o,none⟩ u):=⟨rfl,rfl,rfl,by simp,fun k _ hn=>heap_setCell_other a _ k u hn⟩
theorem FB.below {pb B:Nat} {a b:World} (h:FB pb a b) (hB:B≤pb) (hs:B≤a.heap.size):Below B a b:=⟨h.os,h.tape,h.output,h.size,fun k hk=>h.block k (by omega) (by omega)⟩
theorem FB.cells {pb b o:Nat} {a c:World} {cs:List Value} (h:FB pb a c) (hc:aj a b o cs) (hb:b<a.heap.size) (hn:b≠pb):aj c b o cs:=fun j hj=>by
 rw [← hc j hj]
 simp only [World.cell?]
 rw [h.block b hb hn]
def bS (w:World) (pb:Nat) (x:Int):Prop:=w.heap[pb]?=some (.cells #[.int .i64 x] 3 (0,0))
theorem bS.cell {w:World} {pb:Nat} {x:Int} (h:bS w pb x):w.cell? ⟨pb,0,none⟩=some (.int .i64 x):=by rw [cell_of_row w pb 0 _ _ _ h];rfl
theorem bS.frozen {w:World} {pb:Nat} {x:Int} (h:bS w pb x):w.frozen? ⟨pb,0,none⟩=false:=frozen_of_row w pb 0 _ _ h
theorem bS.lt {w:World} {pb:Nat} {x:Int} (h:bS w pb x):pb<w.heap.size:=by
 rcases Nat.lt_or_ge pb w.heap.size with hlt | hge
 ·exact hlt
 ·unfold bS at h;rw [Array.getElem?_eq_none hge] at h;cases h
theorem bS.below {w w':World} {pb:Nat} {x:Int} (h:bS w pb x) (hb:Below w.heap.size w w'):bS w' pb x:=(hb.block pb h.lt).trans h
theorem bS.set {w:World} {pb:Nat} {x:Int} (y:Int) (h:bS w pb x):bS (w.setCell ⟨pb,0,none⟩ (.int .i64 y)) pb y:=by
 unfold bS
 rw [heap_setCell_same w pb 0 _ _ _ h]
 rfl
theorem fS {d:dL} (h:eb d ⟨false,⟨#[]⟩,0⟩=true):cN d=true:=by
 refine (eW d).2 (.inl ?_)
 unfold eb at h
 simp only [Bool.and_eq_true,beq_iff_eq] at h
 refine ⟨?_,h.1,h.2.2⟩
 have h2:=h.2.1
 rw [show (⟨#[]⟩:ByteArray).toList=[] from bv rfl] at h2
 exact (aH _).1 h2
theorem fH {s:ByteArray} (h:s.size=0):validS s=true:=by unfold validS;rw [h];rfl
theorem nr {v:ar} (h:fO v=true):ca v=v.list++v.fields.map (·.2):=by
 obtain ⟨_,_,_,_,_,_,_,h6,h7⟩:=(fY v).1 h
 unfold ca
 by_cases hk:v.kind=7
 ·rw [if_pos hk]
  have:v.list=[]:=List.length_eq_zero_iff.1 (by have:=h6 (by omega);omega)
  rw [this]
  rfl
 ·rw [if_neg hk]
  have:v.fields=[]:=List.length_eq_zero_iff.1 (by have:=h7 hk;omega)
  rw [this]
  simp
theorem uW {v:ar} {k:Nat} (h:k<v.list.length):(v.list++v.fields.map (·.2)).drop k=v.list[k]::(v.list++v.fields.map (·.2)).drop (k+1):=by
 rw [List.drop_eq_getElem_cons (by simp;omega),List.getElem_append_left h]
theorem qo {v:ar} {k:Nat} (h:k<v.fields.length):(v.list++v.fields.map (·.2)).drop (v.list.length+k)=v.fields[k].2::(v.list++v.fields.map (·.2)).drop (v.list.length+(k+1)):=by
 rw [List.drop_eq_getElem_cons (by simp;omega),List.getElem_append_right (by omega)]
 congr 1
 simp
theorem x3 (v:ar):(v.list++v.fields.map (·.2)).drop (v.list.length+v.fields.length)=[]:=List.drop_eq_nil_of_le (by simp)
theorem je {P:Program} {ops:Array Oper} {rest:List Oper} {op:Oper} {a:Act} {w:World} {Q:Exit→Act→World→Prop} (hw:Region.wanted op (yielded ops a.tmps)=true) (ty:TypeId) (x:Operand) (ho:op.op=.load ty x)
 (b o:Nat) (hx:a.eval x=.pointer (some ⟨b,o,none⟩)) (cs:List Value) (d:TypeDesc) (hc:w.rangeAt b o cs)
 (hu:P.underlying ty=some d) (hd:d.isRow=true) (hi:(P.info? ty).map (·.size)=some cs.length)
 (h:wpList P ops Q rest (a.put op.dst (.agg cs.toArray)) w):wpList P ops Q (op::rest) a w :=
 wpList_step fun K hK=>by rw [if_pos hw];exact wp_load_mid ty x ho b o hx cs d hc hu hd hi (hK _ _ h)
def vy (pb:Nat) (r:Int×Int) (w:World) (e:Ending) (w':World):Prop:=e=.returned (.int .i64 r.2)∧FB pb w w'∧∃ x,bS w' pb x∧(r.2=0→x=r.1)
theorem dU {pb:Nat} {y z n:Int} {w w':World} (hz:z≠0) (hf:FB pb w w') (hc:bS w' pb n):vy pb (y,z) w (.returned (.int .i64 z)) w':=⟨rfl,hf,n,hc,fun h=>absurd h hz⟩
set_option maxRecDepth 100000 in
set_option maxHeartbeats 6400000 in
theorem qB (m:Nat):∀ (v:ar) (w:World) (B N:Nat) (cs:List Value) (depth:Nat) (n:Int) (pb:Nat) (y z:Int),depth+m=49→0≤n→n≤65536→N≤4294967296→B≤w.heap.size→B≤pb→bS w pb n→ar.At w B N v cs→bf m v n=(y,z) →
 Calls Tryz.prog 149 #[.agg cs.toArray,.int .i64 depth,.pointer (some ⟨pb,0,none⟩)] w (vy pb (y,z) w):=by
 induction m with
 | zero =>
   intro v w B N cs depth n pb y z hd hn0 hn1 hN hB hpb hc hv hr
   obtain ⟨rfl,rfl⟩:n=y∧(9:Int)=z:=by simpa [bf] using hr
   have HC:=Hd hc
   have k0:=hc.cell
   have k1:=hc.frozen
   have k2:=(hc.below (af w (.cells cs.toArray 30))).cell
   have k3:=(hc.below (af w (.cells cs.toArray 30))).frozen
   clear hv hr hc
   go_enter Tryz.func149,Tryz.ntmps149
   go_wp2_with fail
   go_ret
   exact dU (by decide) ((FB.of_below (af w _)).trans (FB.setCell _ 0 _)) ((HC.out.below (af w _)).set _)
 | succ m ih =>
   intro v w B N cs depth n pb y z hd hn0 hn1 hN hB hpb hc hv hr
   have IH:=Hd ih
   have hd':depth≤48:=by omega
   have HD:=Hd hd
   have HV:=Hd hv
   have HRES:=Hd (show (if 65536≤n then (n,10) else if du v=0 then cX (bf m) (ca v) (n+1) else (n,du v))=(y,z) from hr)
   have hl:=Hd (show (Tryz.prog.info? 30).map (·.size)=some cs.length by rw [hv.len];exact bM)
   have HC:=Hd hc
   have hplt:=hc.lt
   have k0:=hc.cell
   have k1:=hc.frozen
   have hcb:=hc.below (af w (.cells cs.toArray 30))
   have k2:=hcb.cell
   have k3:=hcb.frozen
   have hss:(w.setCell ⟨pb,0,none⟩ (.int .i64 (n+1))).heap.size=w.heap.size:=by simp
   have HC1:=Hd ((hc.set (n+1)).below (af (w.setCell ⟨pb,0,none⟩ (.int .i64 (n+1))) (.cells cs.toArray 30)))
   have k4:=HC1.out.cell
   have HF1:=Hd (show FB pb w ((w.setCell ⟨pb,0,none⟩ (.int .i64 (n+1))).alloc (.cells cs.toArray 30)) from (FB.setCell _ 0 _).trans (FB.of_below (af _ _)))
   have R1:=Hd (show aj ((w.setCell ⟨pb,0,none⟩ (.int .i64 (n+1))).alloc (.cells cs.toArray 30)) w.heap.size 0 cs from by
    have:=aA (w.setCell ⟨pb,0,none⟩ (.int .i64 (n+1))) cs 30
    rw [hss] at this
    exact this)
   obtain ⟨ya,la,va,yc,lc,vc,hh⟩:=hv.has
   have hds:v.num.digits.size≤N:=hh.own.2.2.2.2.2.2.1
   have hts:v.text.size≤N:=hh.own.2.2.2.2.2.2.2.1
   have hll:v.list.length≤N:=hh.own.2.2.2.2.2.2.2.2.2.1
   have hfs:v.fields.length≤N:=hh.own.2.2.2.2.2.2.2.2.2.2
   have HH:=Hd hh
   have hsz1:((w.setCell ⟨pb,0,none⟩ (.int .i64 (n+1))).alloc (.cells cs.toArray 30)).heap.size=w.heap.size+1:=by simp
   have HS1:=Hd hsz1
   clear ih hv hd hr hc hcb hh hsz1 hss
   have d0:=R1.out.get0 HH.out.kind
   by_cases hs:65536≤n
   ·have HX:=HRES.out
    rw [if_pos hs] at HX
    obtain ⟨rfl,rfl⟩:n=y∧(10:Int)=z:=by simpa using HX
    clear HX
    go_enter Tryz.func149,Tryz.ntmps149
    go_wp2_with fail
    go_ret
    exact dU (by decide) HF1.out HC1.out
   have HR2:=Hd (show (if du v=0 then cX (bf m) (ca v) (n+1) else (n,du v))=(y,z) by have:=HRES.out;rwa [if_neg hs] at this)
   clear HRES
   by_cases hkr:0≤v.kind∧v.kind<8
   ·obtain ⟨hk0,hk7⟩:=hkr
    have GK1:=Hd (show @decide (v.kind<0) (Int.decLt _ _)=false from decide_eq_false (by omega))
    have GK2:=Hd (show @decide (8≤v.kind) (Int.decLe _ _)=false from decide_eq_false (by omega))
    go_enter Tryz.func149,Tryz.ntmps149
    go_wp2_with ((with_reducible show wpList _ _ _ (⟨some 37,_,_,_,_,_⟩::_) _ _);refine je ?hw 30 _ rfl w.heap.size 0 rfl cs _ R1.out.range Tryz.underlying30 rfl hl.out ?_;case hw=>(rw [GK1.out,GK2.out];kernel_rfl))
    refine (qk v _ w.heap.size N cs hk0 hk7 ?hat).mono ?_
    case hat=>exact (HV.out.below ((HF1.out.below hpb hB))).mono hB
    rintro e w2 ⟨rfl,hb2⟩
    have HC2:=Hd (HC1.out.below hb2)
    have HF2:=Hd (HF1.out.trans (FB.of_below hb2))
    have R2:=Hd (R1.out.then hb2 (by rw [HS1.out];omega))
    have hs2:w.heap.size<w2.heap.size:=by have:=hb2.size;rw [HS1.out] at this;omega
    clear hb2 k2 k3 k4 d0
    cases ho:fO v with
    | false =>
      have HX:=HR2.out
      rw [oo ho,if_neg (by decide)] at HX
      obtain ⟨rfl,rfl⟩:n=y∧(6:Int)=z:=by simpa using HX
      clear HX ho
      go_wp2_with fail
      go_ret
      exact dU (by decide) HF2.out HC2.out
    | true =>
    have HO:=Hd ho
    obtain ⟨_,_,_,ow1,ow2,ow3,_,_,_⟩:=(fY v).1 ho
    have OW1:=Hd ow1
    have OW2:=Hd ow2
    have OW3:=Hd ow3
    clear ho ow1 ow2 ow3
    have REST:=Hd (show ∀ w3:World,Below w2.heap.size w2 w3→FB pb w w3∧bS w3 pb (n+1)∧aj w3 w.heap.size 0 cs∧w.heap.size<w3.heap.size from fun w3 hb3 =>
     ⟨HF2.out.trans (FB.of_below hb3),HC2.out.below hb3,R2.out.then hb3 hs2,Nat.lt_of_lt_of_le hs2 hb3.size⟩)
    have d0:=R2.out.get0 HH.out.kind
    have hcase:v.kind=2∨v.kind=3∨v.kind=4∨(v.kind≠2∧v.kind≠3∧v.kind≠4):=by omega
    rcases hcase with hk | hk | hk | hk
    case' inl =>
     have HK:=Hd hk
     have d2:=R2.out.get0 HH.out.neg
     have d3:=R2.out.get0 HH.out.digits
     have d4:=R2.out.get0 HH.out.exp
     rw [hk] at d0
     clear hk
     go_wp2_with fail
     refine (rP v.num _ (by unfold maxLen;omega)).mono ?_
     rintro e w3 ⟨rfl,hb3⟩
     obtain ⟨hf3,hc3,hr3,hs3⟩:=REST.out _ hb3
     have HF3:=Hd hf3
     have HC3:=Hd hc3
     have R3:=Hd hr3
     clear hb3 hf3 hc3 hr3 d0 d2 d3 d4 R2 HF2 HC2 REST hs2
     cases hd:cN v.num
     case false =>
      have HX:=HR2.out
      rw [oq HO.out (.inl hd),if_neg (by decide)] at HX
      obtain ⟨rfl,rfl⟩:n=y∧(2:Int)=z:=by simpa using HX
      clear HX hd
      go_wp2_with fail
      go_ret
      exact dU (by decide) HF3.out HC3.out
     have HQ:=Hd (show ¬ (cN v.num=false∨(v.kind=3∧cM v.time=false)) by rw [hd,HK.out];simp)
     have HT:=Hd (show validS v.text=true from fH ((aH _).1 (OW3.out (by rw [HK.out];decide))))
     have e0:=R3.out.get0 HH.out.kind
     rw [HK.out] at e0
     clear hd
    case' inr.inl =>
     have HK:=Hd hk
     have d5:=R2.out.get0 HH.out.tkind
     have d6:=R2.out.get0 HH.out.day
     have d7:=R2.out.get0 HH.out.nano
     have d8:=R2.out.get0 HH.out.offset
     rw [hk] at d0
     clear hk
     go_wp2_with fail
     refine (pN v.time _).mono ?_
     rintro e w3 ⟨rfl,hb3⟩
     obtain ⟨hf3,hc3,hr3,hs3⟩:=REST.out _ hb3
     have HF3:=Hd hf3
     have HC3:=Hd hc3
     have R3:=Hd hr3
     clear hb3 hf3 hc3 hr3 d0 d5 d6 d7 d8 R2 HF2 HC2 REST hs2
     cases hd:cM v.time
     case false =>
      have HX:=HR2.out
      rw [oq HO.out (.inr ⟨HK.out,hd⟩),if_neg (by decide)] at HX
      obtain ⟨rfl,rfl⟩:n=y∧(2:Int)=z:=by simpa using HX
      clear HX hd
      go_wp2_with fail
      go_ret
      exact dU (by decide) HF3.out HC3.out
     have HQ:=Hd (show ¬ (cN v.num=false∨(v.kind=3∧cM v.time=false)) by rw [hd,fS (OW1.out (by rw [HK.out];decide))];simp)
     have HT:=Hd (show validS v.text=true from fH ((aH _).1 (OW3.out (by rw [HK.out];decide))))
     have e0:=R3.out.get0 HH.out.kind
     rw [HK.out] at e0
     clear hd
    case' inr.inr.inl =>
     have HK:=Hd hk
     have d9:=R2.out.get0 HH.out.text
     rw [hk] at d0
     have HQ:=Hd (show ¬ (cN v.num=false∨(v.kind=3∧cM v.time=false)) by rw [hk,fS (OW1.out (by rw [hk];decide))];simp)
     clear hk
     go_wp2_with fail
     refine (iB v.text _ (by omega)).mono ?_
     rintro e w3 ⟨rfl,hw3⟩
     have hb3:Below w2.heap.size w2 w3:=by rw [← hw3];exact Below.refl _ _
     obtain ⟨hf3,hc3,hr3,hs3⟩:=REST.out _ hb3
     have HF3:=Hd hf3
     have HC3:=Hd hc3
     have R3:=Hd hr3
     clear hw3 hb3 hf3 hc3 hr3 d0 d9 R2 HF2 HC2 REST hs2
     cases hd:validS v.text
     case false =>
      have HX:=HR2.out
      rw [rh HO.out HQ.out hd,if_neg (by decide)] at HX
      obtain ⟨rfl,rfl⟩:n=y∧(5:Int)=z:=by simpa using HX
      clear HX hd
      go_wp2_with fail
      go_ret
      exact dU (by decide) HF3.out HC3.out
     have HT:=Hd hd
     have e0:=R3.out.get0 HH.out.kind
     rw [HK.out] at e0
     clear hd
    case' inr.inr.inr =>
     have HK:=Hd hk
     have HQ:=Hd (show ¬ (cN v.num=false∨(v.kind=3∧cM v.time=false)) by rw [fS (OW1.out hk.1)];simp [hk.2.1])
     have HT:=Hd (show validS v.text=true from fH ((aH _).1 (OW3.out hk.2.2)))
     obtain ⟨hf3,hc3,hr3,hs3⟩:=REST.out _ (Below.refl _ _)
     have HF3:=Hd hf3
     have HC3:=Hd hc3
     have R3:=Hd hr3
     clear hf3 hc3 hr3 d0 R2 HF2 HC2 REST hs2
     have e0:=R3.out.get0 HH.out.kind
     have gq2:(v.kind==2)=false:=by simpa using hk.1
     have gq3:(v.kind==3)=false:=by simpa using hk.2.1
     have gq4:(v.kind==4)=false:=by simpa using hk.2.2
     clear hk
    all_goals
     have d9:=R3.out.get0 HH.out.text
     have d10:=R3.out.get0 HH.out.bytes
     have d12:=R3.out.get0 HH.out.fields
     by_cases hsz:65536<v.text.size∨65536<v.bytes.length
     ·have HX:=HR2.out
      rw [ot HO.out HQ.out HT.out hsz,if_neg (by decide)] at HX
      obtain ⟨rfl,rfl⟩:n=y∧(10:Int)=z:=by simpa using HX
      clear HX
      have hsz2:65536<v.text.size∨(¬ 65536<v.text.size∧65536<v.bytes.length):=by omega
      clear hsz
      rcases hsz2 with g1 | ⟨g1,g2⟩
      all_goals
       go_wp2_with fail
       go_ret
       exact dU (by decide) HF3.out HC3.out
     ·have HX:=Hd (om HO.out HQ.out HT.out hsz)
      have g1:¬ 65536<v.text.size:=by omega
      have g2:¬ 65536<v.bytes.length:=by omega
      clear hsz
      go_wp2_with fail
      have HB3:=Hd (HF3.out.below hpb hB)
      refine (xd v.fields va vc _ B N hN hfs (Nat.le_trans hB HF3.out.size) (HH.out.atFields.below HB3.out)).mono ?_
      rintro e w4 ⟨rfl,hb4⟩
      have HF4:=Hd (HF3.out.trans (FB.of_below hb4))
      have HC4:=Hd (HC3.out.below hb4)
      have R4:=Hd (R3.out.then hb4 hs3)
      have hs4:w.heap.size<w4.heap.size:=Nat.lt_of_lt_of_le hs3 hb4.size
      clear hb4 HB3 HF3 HC3 R3 hs3 e0 d9 d10 d12
      obtain ⟨k1,hk1⟩:∃ k1,bJ [] (xe v)=k1:=⟨_,rfl⟩
      have HR3:=HR2.out
      rw [HX.out,hk1] at HR3
      rw [zS,hk1]
      by_cases hk0':k1=0
      ·subst hk0'
       rw [if_pos rfl,nr HO.out] at HR3
       have HRES:=Hd HR3
       have d11:=R4.out.get0 HH.out.list
       clear HR3 HR2 hk1 HX
       go_wp2_with fail
       go_simp
       go_loopw [91] (fun i wr=>∃ (x:Int) (k:Nat),k≤v.list.length∧i=.int .i64 k∧0≤x∧x≤65536∧Hid (cX (bf m) ((v.list++v.fields.map (·.2)).drop k) x=(y,z))∧Hid (FB pb w wr)∧Hid (bS wr pb x)∧Hid (aj wr w.heap.size 0 cs)∧w.heap.size<wr.heap.size) (fun i _=>v.list.length-(intOf i).toNat)
       case atStart=>exact ⟨n+1,0,by omega,rfl,by omega,by omega,HRES,HF4,HC4,R4,hs4⟩
       case round =>
        obtain ⟨w5,rfl⟩:∃ w5,w5=wr:=⟨wr,rfl⟩
        clear HRES HF4 HC4 R4 hs4 d11
        obtain ⟨x,k,hk,rfl,hx0,hx1,HRES,HF,HCC,R5,hs5⟩:=hrel
        by_cases hlt:k<v.list.length
        ·obtain ⟨b,o,rfl,hb,hget⟩:=HH.out.atList.get (by intro h;simp [h] at hlt)
         obtain ⟨cs1,h1,h2⟩:=hget k hlt
         have hbw:Below B w w5:=HF.out.below hpb hB
         have HR:=Hd (h1.below hbw hb).range
         have hbx:Below B w (w5.alloc (.cells cs1.toArray 30)):=(HF.out.trans (FB.of_below (af w5 _))).below hpb hB
         have H5:=Hd (show ar.At (w5.alloc (.cells cs1.toArray 30)) B N v.list[k] cs1 from h2.below hbx)
         have hl1:=Hd (show (Tryz.prog.info? 30).map (·.size)=some cs1.length by rw [h2.len];exact bM)
         have hl2:=Hd (show (Tryz.prog.info? 30).map (·.size)=some cs1.toArray.size by rw [List.size_toArray,h2.len];exact bM)
         have hl3:=Hd (show dn.size=cs1.toArray.size by show 13=cs1.toArray.size;rw [List.size_toArray,h2.len])
         have hone:=Hd (show cs1.toArray.all (·.oneCell')=true from Go.all_oneCell_toArray h2.oneCell)
         have HRR:=Hd (show (if (bf m v.list[k] x).2=0 then cX (bf m) ((v.list++v.fields.map (·.2)).drop (k+1)) (bf m v.list[k] x).1 else bf m v.list[k] x)=(y,z) by have h:=HRES.out;rw [uW hlt] at h;exact h)
         have hrng:=fK m v.list[k] x hx0 hx1
         obtain ⟨y1,z1,hyz⟩:∃ y1 z1,bf m v.list[k] x=(y1,z1):=⟨_,_,rfl⟩
         have HYZ:=Hd hyz
         have HR4:=HRR.out
         rw [hyz] at HR4 hrng
         simp only at HR4 hrng
         obtain ⟨hr0,hr1⟩:=hrng
         have HC5:=Hd (HCC.out.below (af w5 (.cells cs1.toArray 30)))
         have HF5:=Hd (HF.out.trans (FB.of_below (af w5 (.cells cs1.toArray 30))))
         have R6:=Hd (R5.out.then (af w5 (.cells cs1.toArray 30)) hs5)
         have hs6:w.heap.size<(w5.alloc (.cells cs1.toArray 30)).heap.size:=by rw [World.size_alloc];omega
         clear h1 h2 hget HRR HRES hyz hbw hbx
         go_wp2_with (first
          | (refine wpList_load_mid rfl 30 _ rfl b (o+k * 13) rfl cs1 _ HR.out Tryz.underlying30 rfl hl1.out ?_)
          | (refine ak rfl 30 _ _ rfl dn cs1.toArray rfl rfl hl2.out hl3.out hone.out ?_)
          | (refine wpList_load_mid rfl 30 _ rfl w5.heap.size 0 rfl cs1 _ (aA w5 cs1 30).range Tryz.underlying30 rfl hl1.out ?_))
         refine (IH.out v.list[k] _ B N cs1 (depth+1) x pb y1 z1 (by have:=HD.out;omega) hx0 hx1 hN (by omega) hpb HC5.out H5.out HYZ.out).mono ?_
         rintro e1 w6 ⟨rfl,hf6,x6,hc6,hx6⟩
         have HF6:=Hd (HF5.out.trans hf6)
         have HC6:=Hd hc6
         have R7:=Hd (hf6.cells R6.out hs6 (by omega))
         have hs7:w.heap.size<w6.heap.size:=Nat.lt_of_lt_of_le hs6 hf6.size
         clear hf6 hc6 HC5 HF5 R6 H5 HR R5 HF HCC hs6
         by_cases hz:z1=0
         ·rw [if_pos hz] at HR4
          have HRES:=Hd HR4
          have hx7:=hx6 hz
          simp only at hx7
          subst hz hx7
          clear HR4 hx6
          go_wp2_with fail
          go_roundw
          case rel=>exact ⟨x6,k+1,by omega,by go_num,hr0,hr1,HRES,HF6,HC6,R7,hs7⟩
          case measure=>simp [intOf];omega
         ·rw [if_neg hz] at HR4
          obtain ⟨rfl,rfl⟩:y1=y∧z1=z:=by simpa using HR4
          have hz':(z1==0)=false:=by simpa using hz
          have hz2:(z1 != 0)=true:=by simpa using hz
          have HZ:=Hd hz
          clear hz HR4 hx6
          go_wp2_with fail
          go_ret
          exact dU HZ.out HF6.out HC6.out
        ·obtain rfl:k=v.list.length:=by omega
         have HRES1:=Hd (show cX (bf m) ((v.list++v.fields.map (·.2)).drop (v.list.length+0)) x=(y,z) from HRES.out)
         have d12:=R5.out.get0 HH.out.fields
         clear HRES
         go_wp2_with fail
         go_simp
         go_loopw [107] (fun i wr=>∃ (x:Int) (k:Nat),k≤v.fields.length∧i=.int .i64 k∧0≤x∧x≤65536∧Hid (cX (bf m) ((v.list++v.fields.map (·.2)).drop (v.list.length+k)) x=(y,z))∧Hid (FB pb w wr)∧Hid (bS wr pb x)∧w.heap.size<wr.heap.size) (fun i _=>v.fields.length-(intOf i).toNat)
         case atStart=>exact ⟨x,0,by omega,rfl,hx0,hx1,HRES1,HF,HCC,hs5⟩
         case round =>
          obtain ⟨w7,rfl⟩:∃ w7,w7=wr:=⟨wr,rfl⟩
          clear HRES1 HF HCC R5 hs5 d12 hx0 hx1
          obtain ⟨x,k,hk,rfl,hx0,hx1,HRES,HF,HCC,hs5⟩:=hrel
          by_cases hlt:k<v.fields.length
          ·obtain ⟨b,o,rfl,hb,hget⟩:=HH.out.atFields.get (by intro h;simp [h] at hlt)
           obtain ⟨cs1,hkey,h1,h2⟩:=hget k hlt
           obtain ⟨ky,hky⟩:∃ ky,ky=v.fields[k].1:=⟨_,rfl⟩
           rw [← hky] at h1 hkey
           clear hky
           have hbw:Below B w w7:=HF.out.below hpb hB
           have HR:=Hd (h1.below hbw hb).range
           have hbx:Below B w (w7.alloc (.cells (.string ky::cs1).toArray 169)):=(HF.out.trans (FB.of_below (af w7 _))).below hpb hB
           have HX:=Hd (show ar.At (w7.alloc (.cells (.string ky::cs1).toArray 169)) B N v.fields[k].2 cs1 from h2.below hbx)
           have hl1:=Hd (show (Tryz.prog.info? 169).map (·.size)=some (Value.string ky::cs1).length by rw [List.length_cons,h2.len];exact m9)
           have hl2:=Hd (show (Tryz.prog.info? 169).map (·.size)=some (Value.string ky::cs1).toArray.size by rw [List.size_toArray,List.length_cons,h2.len];exact m9)
           have hl3:=Hd (show jB.size=(Value.string ky::cs1).toArray.size by show 14=_;rw [List.size_toArray,List.length_cons,h2.len])
           have hl4:=Hd (show (Tryz.prog.info? 30).map (·.size)=some cs1.length by rw [h2.len];exact bM)
           have hone:=Hd (show (Value.string ky::cs1).toArray.all (·.oneCell')=true from Go.all_oneCell_toArray (fun u hu=>by
            rcases List.mem_cons.1 hu with rfl | hu
            ·rfl
            ·exact h2.oneCell u hu))
           have RX:=Hd (aj.tail (aA w7 (.string ky::cs1) 169)).range
           have HRR:=Hd (show (if (bf m v.fields[k].2 x).2=0 then cX (bf m) ((v.list++v.fields.map (·.2)).drop (v.list.length+(k+1))) (bf m v.fields[k].2 x).1 else bf m v.fields[k].2 x)=(y,z) by have h:=HRES.out;rw [qo hlt] at h;exact h)
           have hrng:=fK m v.fields[k].2 x hx0 hx1
           obtain ⟨y1,z1,hyz⟩:∃ y1 z1,bf m v.fields[k].2 x=(y1,z1):=⟨_,_,rfl⟩
           have HYZ:=Hd hyz
           have HR4:=HRR.out
           rw [hyz] at HR4 hrng
           simp only at HR4 hrng
           obtain ⟨hr0,hr1⟩:=hrng
           have HC5:=Hd (HCC.out.below (af w7 (.cells (.string ky::cs1).toArray 169)))
           have HF5:=Hd (HF.out.trans (FB.of_below (af w7 (.cells (.string ky::cs1).toArray 169))))
           have hs6:w.heap.size<(w7.alloc (.cells (.string ky::cs1).toArray 169)).heap.size:=by rw [World.size_alloc];omega
           clear h1 h2 hget HRR HRES hyz hbw hbx
           go_wp2_with (first
            | (refine wpList_load_mid rfl 169 _ rfl b (o+k * 14) rfl (.string ky::cs1) _ HR.out Tryz.underlying169 rfl hl1.out ?_)
            | (refine ak rfl 169 _ _ rfl jB (.string ky::cs1).toArray rfl rfl hl2.out hl3.out hone.out ?_)
            | (refine wpList_load_mid rfl 30 _ rfl w7.heap.size 1 rfl cs1 _ RX.out Tryz.underlying30 rfl hl4.out ?_))
           refine (IH.out v.fields[k].2 _ B N cs1 (depth+1) x pb y1 z1 (by have:=HD.out;omega) hx0 hx1 hN (by omega) hpb HC5.out HX.out HYZ.out).mono ?_
           rintro e1 w6 ⟨rfl,hf6,x6,hc6,hx6⟩
           have HF6:=Hd (HF5.out.trans hf6)
           have HC6:=Hd hc6
           have hs7:w.heap.size<w6.heap.size:=Nat.lt_of_lt_of_le hs6 hf6.size
           clear hf6 hc6 HC5 HF5 HX HR HF HCC hs6 RX
           by_cases hz:z1=0
           ·rw [if_pos hz] at HR4
            have HRES:=Hd HR4
            have hx7:=hx6 hz
            simp only at hx7
            subst hz hx7
            clear HR4 hx6
            go_wp2_with fail
            go_roundw
            case rel=>exact ⟨x6,k+1,by omega,by go_num,hr0,hr1,HRES,HF6,HC6,hs7⟩
            case measure=>simp [intOf];omega
           ·rw [if_neg hz] at HR4
            obtain ⟨rfl,rfl⟩:y1=y∧z1=z:=by simpa using HR4
            have hz':(z1==0)=false:=by simpa using hz
            have hz2:(z1 != 0)=true:=by simpa using hz
            have HZ:=Hd hz
            clear hz HR4 hx6
            go_wp2_with fail
            go_ret
            exact dU HZ.out HF6.out HC6.out
          ·obtain rfl:k=v.fields.length:=by omega
           have HR4:=HRES.out
           rw [x3] at HR4
           obtain ⟨rfl,rfl⟩:x=y∧(0:Int)=z:=by simpa [cX] using HR4
           clear HR4
           go_wp2_with fail
           go_ret
           exact ⟨rfl,HF.out,_,HCC.out,fun _=>rfl⟩
      ·rw [if_neg hk0'] at HR3
       obtain ⟨rfl,rfl⟩:n=y∧k1=z:=by simpa using HR3
       have hk2:(k1==0)=false:=by simpa using hk0'
       have hk3:(k1 != 0)=true:=by simpa using hk0'
       clear HR3 HR2 hk1 HX
       go_wp2_with fail
       go_ret
       exact dU hk0' HF4.out HC4.out
   ·have HX:=HR2.out
    have hob:fO v=false:=by
     cases h:fO v
     ·rfl
     ·have:=(fY v).1 h;omega
    rw [oo hob,if_neg (by decide)] at HX
    obtain ⟨rfl,rfl⟩:n=y∧(6:Int)=z:=by simpa using HX
    have hcase:v.kind<0∨(¬ v.kind<0∧8≤v.kind):=by omega
    clear HX hob hkr
    rcases hcase with g1 | ⟨g1,g2⟩
    all_goals
     go_enter Tryz.func149,Tryz.ntmps149
     go_wp2_with fail
     go_ret
     exact dU (by decide) HF1.out HC1.out
set_option maxRecDepth 100000 in
set_option maxHeartbeats 1600000 in
theorem nW (v:ar) (w:World) (B N:Nat) (cs:List Value) (hN:N≤4294967296) (hB:B≤w.heap.size) (hv:ar.At w B N v cs) :
 Calls Tryz.prog 101 #[.agg cs.toArray] w (gK (dJ v) w):=by
 have HV:=Hd hv
 have hl:=Hd (show (Tryz.prog.info? 30).map (·.size)=some cs.length by rw [hv.len];exact bM)
 have H0:=Hd (show Below w.heap.size w (w.alloc (.cells cs.toArray 30)) from af w _)
 have H1:=Hd (ae H0.out (af (w.alloc (.cells cs.toArray 30)) (.cells #[.int .i64 0] 3)))
 have HS:=Hd (show ((w.alloc (.cells cs.toArray 30)).alloc (.cells #[.int .i64 0] 3)).heap.size=w.heap.size+1+1 by rw [World.size_alloc,World.size_alloc])
 have HC:=Hd (show bS ((w.alloc (.cells cs.toArray 30)).alloc (.cells #[.int .i64 0] 3)) (w.heap.size+1) 0 from by
  have h:=heap_alloc_new (w.alloc (.cells cs.toArray 30)) (.cells #[.int .i64 0] 3)
  rw [World.size_alloc] at h
  exact h)
 have R0:=Hd ((aA w cs 30).then (af (w.alloc (.cells cs.toArray 30)) (.cells #[.int .i64 0] 3)) (by rw [World.size_alloc];omega))
 obtain ⟨x,y,hxy⟩:∃ x y,bf 48 v 0=(x,y):=⟨_,_,rfl⟩
 have HXY:=Hd hxy
 have HCK:=Hd (show dJ v=y by unfold dJ;rw [hxy])
 clear hv hxy
 go_enter Tryz.func101,Tryz.ntmps101
 go_wp2_with ((with_reducible show wpList _ _ _ (⟨some 4,_,_,_,_,_⟩::_) _ _);refine wpList_load_mid rfl 30 _ rfl w.heap.size 0 rfl cs _ R0.out.range Tryz.underlying30 rfl hl.out ?_)
 refine (qB 48 v _ B N cs 1 0 (w.heap.size+1) x y (by omega) (by omega) (by omega) hN (by rw [HS.out];omega) (by omega) HC.out (HV.out.below (H1.out.mono hB)) HXY.out).mono ?_
 rintro e w1 ⟨rfl,hf,_⟩
 have H2:=Hd (show Below w.heap.size w w1 from ⟨hf.os.trans H1.out.os,hf.tape.trans H1.out.tape,hf.output.trans H1.out.output,Nat.le_trans H1.out.size hf.size,fun k hk=>(hf.block k (Nat.lt_of_lt_of_le hk H1.out.size) (by omega)).trans (H1.out.block k hk)⟩)
 clear hf
 go_wp2_with fail
 go_ret
 exact ⟨aP (by rw [HCK.out]),H2.out⟩
end Go.Proofs.YtiefeajappjnbaaGreatDoor
