/- The plan of a query is the plan's own: what both sides' copies want (plain); the law's few of three expressions. -/
import Derived.Test.YtiefeajappjnbaaGreatDoorGA
import Derived.Test.YtiefeajappjnbaaGreatDoorPpl43
import Derived.Test.YtiefeajappjnbaaGreatDoorHL
import Derived.Test.YtiefeajappjnbaaGreatDoorNB
import Derived.Test.YtiefeajappjnbaaGreatDoorNG
namespace Go.Proofs.YtiefeajappjnbaaGreatDoor
open Go.RowKit
theorem xN {e:ag} (hw:wf1 e) (h:e.op=19∨e.op=20):2<e.args.length:=by
 rcases h with h | h
 ·have:=eE hw (n:=3) (by rw [h];decide)
  omega
 ·have:=eE hw (n:=4) (by rw [h];decide)
  omega
theorem nc {x e b:ag} {d:br} {m:Nat} (h:cy x=some d) (he:dR x=e) (hb:gg x=b) (hd:dpE (m+1) e) (hw:e.op=30∨wf1 e) (hs:iw b):iw d.init∧iw d.upd∧iw d.body:=by
 by_cases hf:fy e=true
 ·have ho:e.op=19∨e.op=20:=by
   have:=of_decide_eq_true hf
   omega
  have hl:=xN (hw.resolve_left (by omega)) ho
  rw [kp he hb hf hl] at h
  split at h
  ·cases h
  ·cases hk:cQ (dZ 47 e.args[0]) with
   | none=>rw [hk] at h;cases h
   | some s =>
     rw [hk] at h
     cases h
     exact ⟨et m _ (fR hd 1 (by omega)),et m _ (fR hd 2 (by omega)),hs⟩
 ·rw [ji he hb (by simpa using hf)] at h
  cases hk:cQ (dZ 47 e) with
  | none=>rw [hk] at h;cases h
  | some s =>
    rw [hk] at h
    cases h
    exact ⟨et 0 _ tu,et 0 _ tu,hs⟩
theorem wa {x:ag} {d:br} (h:cy x=some d) (hd:dpE 47 x) (hw:wfE 47 x):iw d.init∧iw d.upd∧iw d.body:=by
 by_cases h9:x.op=9
 ·have hl:=eE (gM hw) (n:=2) (by rw [h9];decide)
  refine nc (m:=45) h (lZ h9 (by omega)) (mD h9 (by omega)) (fR (m:=46) hd 0 (by omega)) ?_ (et 46 _ (fR (m:=46) hd 1 (by omega)))
  rcases vG hw (show 0<x.args.length by omega) with h | ⟨m',_,h⟩
  ·exact .inl h
  ·exact .inr (gM h)
 ·exact nc (m:=46) h (pP h9) (qI h9) hd (.inr (gM hw)) (et 0 _ mn)
theorem wj {d:br} {l:List al} (h:eJ d l=0):iF l (a8 d)=0∧iE l (a8 d)=d∧kq l (a8 d)=l∧(iw d.init∧iw d.upd∧iw d.body)∧yL l:=by
 obtain ⟨_,_,_,_,_,_,hp⟩:=rU h
 have hm:=lQ hp
 have hd:=(mi hm).1
 have hs:=re h hd
 refine ⟨?_,?_,?_,wa hs hd (xT hm),v8 (nj hp)⟩
 ·unfold iF
  rw [if_neg (fun g=>g hp),if_neg (by rw [hs];simp)]
 ·unfold iE
  rw [if_neg (fun g=>g hp),hs]
  rfl
 ·unfold kq
  rw [if_neg (fun g=>g hp),if_neg (by rw [hs];simp)]
def DK (l:List al) (es:List ag) (w:World) (e:Ending) (w':World):Prop:=∃ (k:Bool),e=.returned (.bool k)∧Hid (k=true→gY l∧∀ x∈es,cc x)∧Below w.heap.size w w'
theorem rB {w:World} {B N c:Nat} {es:List ag} {a:Option Addr} {l:List al} {fa:Option Addr} {fc:Nat} (hc:es.length≤c) (hn:es.length≤N) (hE:bb w B N es a) (hl:l.length≤N) (hA:av w B N l fa) :
 ag.At w B N (.mk 0 ⟨#[]⟩ (.mk 0 false ⟨false,⟨#[]⟩,0⟩ ⟨0,0,0,0⟩ ⟨#[]⟩ [] [] []) es l)
  [.int .i64 0,.string ⟨#[]⟩,.int .i64 0,.bool false,.bool false,.string ⟨#[]⟩,.int .i64 0,.int .i64 0,.int .i64 0,.int .i64 0,.int .i64 0,.string ⟨#[]⟩,.slice none 0 0,.slice none 0 0,.slice none 0 0,.slice a es.length c,.slice fa l.length fc]:=by
 refine ⟨_,a,fa,c,fc,rfl,?_,gR w B N,hE,hA,hc⟩
 simp [ag.Own,ag.op,ag.name,ag.args,ag.funcs,I64,ByteArray.size]
 exact ⟨hn,hl⟩
set_option maxRecDepth 100000 in
set_option maxHeartbeats 1600000 in
theorem Cl (l:List al) (es:List ag) (fa:Option Addr) (fc:Nat) (a:Option Addr) (c n:Nat) (w:World) (B N:Nat) (hn:es.length=n) (hN:N≤1048576) (hnN:n≤N) (hnc:n≤c) (hl:l.length≤N) (hB:B≤w.heap.size) (hA:av w B N l fa) (hE:bb w B N es a) :
 Calls Tryz.prog 15 #[.slice fa l.length fc,.slice a n c] w (DK l es w):=by
 have HX:=Hd (rB (c:=c) (fa:=fa) (fc:=fc) (by rw [hn];exact hnc) (by rw [hn];exact hnN) hE hl hA)
 rw [hn] at HX
 clear hE hA hn
 by_cases ha:(l.length:Int)<300
 ·go_enter Tryz.func15,Tryz.ntmps15
  go_wp2_with fail
  refine (zC 60 _ _ B N _ 600 (Nat.le_refl _) (by omega) (by omega) (by omega) hB HX.out).mono ?_
  rintro e w1 ⟨k,rfl,_,_,HK,hb1⟩
  have H1:=Hd hb1
  clear hb1
  go_wp2_with fail
  go_ret
  exact ⟨_,rfl,Hd (fun h=>by
   have:=fi.1 (HK.out (by simpa using h))
   exact ⟨this.2.2,fun x hx=>by
    obtain ⟨i,hi,rfl⟩:=List.getElem_of_mem hx
    exact lI this.2.1 i hi⟩),H1.out⟩
 ·go_enter Tryz.func15,Tryz.ntmps15
  go_wp2_with fail
  go_ret
  exact ⟨_,rfl,Hd (fun h=>by simp at h),Below.refl _ _⟩
theorem rJ {u:World} {B' N g:Nat} {xs:List ag} {rows:List (List Value)} (hr:rows.length=xs.length) (h:∀ i (hi:i<xs.length) (hi':i<rows.length),ag.At u B' N xs[i] rows[i]) (R:aq 34 u g rows.flatten) (hg:g<B'):bb u B' N xs (some ⟨g,0,none⟩):=by
 have h17:∀ r∈rows,r.length=17:=fun r hr'=>by
  obtain ⟨i,hi,rfl⟩:=List.getElem_of_mem hr'
  exact (h i (by omega) hi).len
 refine fC hg xs 0 fun i hi=>⟨rows[i]'(by omega),fun j hj=>?_,h i hi (by omega)⟩
 have hj17:j<17:=by rw [← h17 _ (List.getElem_mem (by omega:i<rows.length))];exact hj
 rw [Nat.zero_add,← rH h17 (by omega:i<rows.length) hj17]
 have:=R.cells (i * 17+j) (by rw [ju h17];omega)
 rwa [Nat.zero_add] at this
end Go.Proofs.YtiefeajappjnbaaGreatDoor

/- The law QanalyzeBack: it says yes. -/
namespace Go.Proofs.YtiefeajappjnbaaGreatDoor
open Go.RowKit
def Dz (w:World) (e:Ending) (w':World):Prop:=e=.returned (.bool true)∧Below w.heap.size w w'
set_option maxRecDepth 100000 in
set_option maxHeartbeats 12800000 in
theorem back43 (d:br) (l:List al) (ps:List Value) (w:World) (N:Nat) (hN:N≤1048576) (hN1:20≤N) (h4:4≤w.heap.size) (hE:Env w) (hT:cI w) (hsc:∀ sa sc,ps[1]?=some (.slice sa d.steps.length sc)→d.steps.length≤sc) (hp:cJ w w.heap.size N d l ps) :
 Calls Tryz.prog 6 #[.agg ps.toArray] w (Dz w):=by
 obtain ⟨sa,sc,ics,ucs,bcs,fa,fc,hh⟩:=hp.has
 have hplen:=hp.len
 obtain ⟨k,hk⟩:∃ v,d.steps.length=v:=⟨_,rfl⟩
 obtain ⟨ln,hln⟩:∃ v,l.length=v:=⟨_,rfl⟩
 have HK:=Hd hk
 have HLN:=Hd hln
 have HC1:=Hd (show ps[1]?=some (.slice sa k sc) by rw [← hk];exact hh.steps)
 have HC6:=Hd (show ps[54]?=some (.slice fa ln fc) by rw [← hln];exact hh.funcs)
 have HPI:=Hd hh.init
 have HPU:=Hd hh.upd
 have HPB:=Hd hh.body
 have HPX:=Hd hp
 have HE:=Hd hE
 have HT:=Hd hT
 have HSC:=Hd hsc
 have HKEY:=Hd hh.atSteps.keys
 have HSL:=Hd hh.hsl
 have HLL:=Hd (show l.length≤N from hh.hl)
 have hli:=Hd (show (Tryz.prog.info? 34).map (·.size)=some ics.length by rw [hh.atInit.len];exact ay)
 have hlu:=Hd (show (Tryz.prog.info? 34).map (·.size)=some ucs.length by rw [hh.atUpd.len];exact ay)
 have hlb:=Hd (show (Tryz.prog.info? 34).map (·.size)=some bcs.length by rw [hh.atBody.len];exact ay)
 have hlp:=Hd (show (Tryz.prog.info? 58).map (·.size)=some ps.length by rw [hplen];exact aO)
 have h17:=Hd (wc hh.atInit.len hh.atUpd.len hh.atBody.len)
 obtain ⟨fl,hfl⟩:∃ fl,[ics,ucs,bcs].flatten=fl:=⟨_,rfl⟩
 have HFL:=Hd hfl
 obtain ⟨wB,hwB⟩:∃ wB,wB=(w.alloc (.cells ps.toArray 58)).alloc (.cells fl.toArray 34):=⟨_,rfl⟩
 have BB:=Hd (show Below w.heap.size w wB by rw [hwB];exact ae (af w _) (af _ _))
 have R0:=Hd (aq.new w 58 ps)
 have c54:=R0.out.cell HC6.out
 have PB:=Hd (show aq 58 wB w.heap.size ps by rw [hwB];exact R0.out.alloc _)
 have hsB:=Hd (show wB.heap.size=w.heap.size+2 by rw [hwB,World.size_alloc,World.size_alloc])
 have EX:=Hd (show bb wB wB.heap.size N [d.init,d.upd,d.body] (some ⟨w.heap.size+1,0,none⟩) from
  rJ (rows:=[ics,ucs,bcs]) rfl (wN (P:=fun x r=>ag.At wB wB.heap.size N x r) (ag.At.mono BB.out.size _ (hh.atInit.below BB.out)) (ag.At.mono BB.out.size _ (hh.atUpd.below BB.out)) (ag.At.mono BB.out.size _ (hh.atBody.below BB.out))) (by
   have h:=aq.new (w.alloc (.cells ps.toArray 58)) 34 fl
   rw [World.size_alloc] at h
   rw [hfl,hwB];exact h) (by rw [hsB.out];omega))
 have HFA:=Hd (av.mono BB.out.size _ (av.below BB.out _ hh.atFuncs))
 have HWB:=Hd hwB
 clear hh hp hplen hk hln hE hT hsc hfl hwB
 go_enter Tryz.func6,Tryz.ntmps6
 go_wp2_with (first
  | ((with_reducible show wpList _ _ _ (⟨some 11,_,_,_,_,_⟩::_) _ _);refine wpList_load_mid rfl 34 _ rfl w.heap.size 3 rfl ics _ (R0.out.cells.partU HPI.out) Tryz.underlying34 rfl hli.out ?_)
  | ((with_reducible show wpList _ _ _ (⟨some 13,_,_,_,_,_⟩::_) _ _);refine wpList_load_mid rfl 34 _ rfl w.heap.size 20 rfl ucs _ (R0.out.cells.partU HPU.out) Tryz.underlying34 rfl hlu.out ?_)
  | ((with_reducible show wpList _ _ _ (⟨some 15,_,_,_,_,_⟩::_) _ _);refine wpList_load_mid rfl 34 _ rfl w.heap.size 37 rfl bcs _ (R0.out.cells.partU HPB.out) Tryz.underlying34 rfl hlb.out ?_)
  | ((with_reducible show wpList _ _ _ (⟨some 16,_,_,_,_,_⟩::_) _ _);refine dN rfl [ics,ucs,bcs] fl HFL.out 3 _ rfl rfl (by decide) (by decide) h17.out (by rw [List.map_toArray];rfl) ?_))
 rw [← HWB.out]
 clear c54
 refine (show Calls Tryz.prog 15 #[.slice fa ln fc,.slice (some ⟨w.heap.size+1,0,none⟩) 3 3] wB (DK l [d.init,d.upd,d.body] wB) by rw [← HLN.out];exact Cl l [d.init,d.upd,d.body] fa fc _ 3 3 wB wB.heap.size N rfl hN (by omega) (Nat.le_refl _) HLL.out (Nat.le_refl _) HFA.out EX.out).mono ?_
 rintro e w2 ⟨kk,rfl,HKK,hb2⟩
 have B2:=Hd (ae BB.out hb2)
 have P2:=Hd (PB.out.then hb2)
 have c1:=P2.out.cell HC1.out
 clear hb2
 cases kk
 ·go_wp2_with fail
  go_ret
  exact ⟨rfl,B2.out⟩
 have HSM:=Hd (HKK.out rfl)
 by_cases h100:(100:Int)<k
 ·go_wp2_with fail
  go_ret
  exact ⟨rfl,B2.out⟩
 have h100':(k:Int)≤100:=by omega
 clear h100
 go_wp2_with ((with_reducible show wpList _ _ _ (⟨some 26,_,_,_,_,_⟩::_) _ _);refine wpList_load_mid rfl 58 _ rfl w.heap.size 0 rfl ps _ P2.out.range Tryz.underlying58 rfl hlp.out ?_)
 refine (ul d l ps w2 w.heap.size N hN hN1 h4 B2.out.size (HE.out.then B2.out) (HT.out.below B2.out) HSM.out.1 (HSM.out.2 d.init (by simp)) (HSM.out.2 d.upd (by simp)) (HSM.out.2 d.body (by simp)) (HPX.out.below B2.out)).mono ?_
 rintro e w3 ⟨qs,z,rfl,hz,hq,hq0,hb3⟩
 have HZ:=Hd hz.out
 have HQ0:=Hd hq0.out
 have B3:=Hd (ae B2.out hb3)
 have P3:=Hd (P2.out.then hb3)
 have hq1:=Hd (show (Tryz.prog.info? 61).map (·.size)=some qs.toArray.size by rw [List.size_toArray,hq.out.1];exact lg)
 have hq2:=Hd (show (Tryz.prog.info? 61).map (·.size)=some qs.length by rw [hq.out.1];exact lg)
 have hq3:=Hd (show bZ.toArray.size=qs.toArray.size by show 18=_;rw [List.size_toArray,hq.out.1])
 have hqo:=Hd (show qs.toArray.all (·.oneCell')=true from Go.all_oneCell_toArray hq.out.2)
 obtain ⟨wP,hwP⟩:∃ wP,wP=w3.alloc (.cells qs.toArray 61):=⟨_,rfl⟩
 have B4:=Hd (show Below w.heap.size w wP by rw [hwP];exact ae B3.out (af w3 _))
 have P4:=Hd (show aq 58 wP w.heap.size ps by rw [hwP];exact P3.out.alloc _)
 have T4:=Hd (show aq 61 wP w3.heap.size qs by rw [hwP];exact aq.new w3 61 qs)
 have K4:=Hd (show Below w3.heap.size w3 wP by rw [hwP];exact af w3 _)
 have HWP:=Hd hwP
 clear hz hq hq0 hb3 hwP c1
 go_wp2_with (first
  | ((with_reducible show wpList _ _ _ (⟨none,.store 61 (.tmp 3) (.tmp 28),_,_,_,_⟩::_) _ _);refine ak rfl 61 _ _ rfl bZ.toArray qs.toArray rfl rfl hq1.out hq3.out hqo.out ?_;rw [← HWP.out])
  | ((with_reducible show wpList _ _ _ (⟨some 30,_,_,_,_,_⟩::_) _ _);refine wpList_load_mid rfl 58 _ rfl w.heap.size 0 rfl ps _ P4.out.range Tryz.underlying58 rfl hlp.out ?_))
 refine (yv d l ps wP w.heap.size N hN hN1 B4.out.size (HT.out.below B4.out) HSC.out (HPX.out.below B4.out)).mono ?_
 rintro e w5 ⟨rfl,hb5⟩
 have B5:=Hd (ae B4.out hb5)
 have P5:=Hd (P4.out.then hb5)
 have T5:=Hd (T4.out.then hb5)
 have K5:=Hd (ae K4.out hb5)
 rw [← HZ.out]
 clear hb5
 by_cases hz0:z=0
 case neg =>
  have e1:(z==0)=false:=by simpa using hz0
  have e2:(z != 0)=true:=by simpa using hz0
  have e3:(z==z)=true:=beq_self_eq_true z
  go_wp2_with fail
  go_ret
  exact ⟨by first | rfl | simp,B5.out⟩
 subst hz0
 have HCK:=Hd HZ.out.symm
 obtain ⟨qa,qc,ms,rfl,hqf,hqx⟩:=HQ0.out rfl
 have HQF:=Hd (av.below K5.out _ hqf)
 have HQX:=Hd (hqx.below K5.out)
 have HPA:=Hd (wj HCK.out)
 clear hqf hqx
 go_wp2_with ((with_reducible show wpList _ _ _ (⟨some 38,_,_,_,_,_⟩::_) _ _);refine wpList_load_mid rfl 61 _ rfl w3.heap.size 0 rfl (.slice qa l.length qc::ms:List Value) _ T5.out.range Tryz.underlying61 rfl hq2.out ?_)
 refine (Bu l (a8 d) qa qc ms (.slice qa l.length qc::ms) w5 w3.heap.size N hN (Nat.le_trans h4 B3.out.size) K5.out.size (HE.out.then B5.out) (HT.out.below B5.out) HSM.out.1 (m7 (HSM.out.2 d.init (by simp)) (HSM.out.2 d.upd (by simp)) (HSM.out.2 d.body (by simp))) HLL.out HQF.out HQX.out rfl).mono ?_
 rintro e w6 ⟨ys,y,rfl,hy,hyp,hb6⟩
 obtain rfl:y=0:=hy.out.trans HPA.out.1
 have HY:=Hd (show dc w6 w6.heap.size N d l ys by
  have h:=hyp.out
  rw [HPA.out.2.1,HPA.out.2.2.1] at h
  exact h)
 have B6:=Hd (ae B5.out hb6)
 have P6:=Hd (P5.out.then hb6)
 have hyl:=HY.out.len
 have hy1:=Hd (show (Tryz.prog.info? 58).map (·.size)=some ys.toArray.size by rw [List.size_toArray,hyl];exact aO)
 have hy2:=Hd (show (Tryz.prog.info? 58).map (·.size)=some ys.length by rw [hyl];exact aO)
 have hy3:=Hd (show aB.toArray.size=ys.toArray.size by show 55=_;rw [List.size_toArray,hyl])
 have hyo:=Hd (show ys.toArray.all (·.oneCell')=true from Go.all_oneCell_toArray HY.out.one)
 obtain ⟨wY,hwY⟩:∃ wY,wY=w6.alloc (.cells ys.toArray 58):=⟨_,rfl⟩
 have B7:=Hd (show Below w.heap.size w wY by rw [hwY];exact ae B6.out (af w6 _))
 have P7:=Hd (show aq 58 wY w.heap.size ps by rw [hwY];exact P6.out.alloc _)
 have U7:=Hd (show aq 58 wY w6.heap.size ys by rw [hwY];exact aq.new w6 58 ys)
 have Y7:=Hd (show dc wY wY.heap.size N d l ys by rw [hwY];exact (HY.out.below (af w6 _)).mono (by rw [World.size_alloc];omega))
 have HWY:=Hd hwY
 have HX7:=Hd (dc.mono (dc.below ((HPX.out).pln (by have:=(yu HCK.out).max;exact this)) B7.out) B7.out.size)
 clear hy hyp hb6 hyl hwY
 go_wp2_with (first
  | ((with_reducible show wpList _ _ _ (⟨none,.store 58 (.tmp 6) (.tmp 40),_,_,_,_⟩::_) _ _);refine ak rfl 58 _ _ rfl aB.toArray ys.toArray rfl rfl hy1.out hy3.out hyo.out ?_;rw [← HWY.out])
  | ((with_reducible show wpList _ _ _ (⟨some 49,_,_,_,_,_⟩::_) _ _);refine ax rfl 58 _ rfl w.heap.size 0 rfl ps _ P7.out.range Tryz.underlying58 rfl hlp.out ?_)
  | ((with_reducible show wpList _ _ _ (⟨some 50,_,_,_,_,_⟩::_) _ _);refine ax rfl 58 _ rfl w6.heap.size 0 rfl ys _ U7.out.range Tryz.underlying58 rfl hy2.out ?_))
 refine (Bs d l HPA.out.2.2.2.1.1 HPA.out.2.2.2.1.2.1 HPA.out.2.2.2.1.2.2 HPA.out.2.2.2.2 wY wY.heap.size N ps ys hN (Nat.le_refl _) HX7.out Y7.out).mono ?_
 rintro e w8 ⟨rfl,hb8⟩
 have B8:=Hd (ae B7.out hb8)
 have U8:=Hd (U7.out.then hb8)
 have Y8:=Hd (dc.mono (Y7.out.below hb8) hb8.size)
 clear hb8
 go_wp2_with ((with_reducible show wpList _ _ _ (⟨some 54,_,_,_,_,_⟩::_) _ _);refine ax rfl 58 _ rfl w6.heap.size 0 rfl ys _ U8.out.range Tryz.underlying58 rfl hy2.out ?_)
 refine (tI d l ys w8 w8.heap.size N hN hN1 (Nat.le_trans h4 B8.out.size) (Nat.le_refl _) (HE.out.then B8.out) (HT.out.below B8.out) HSM.out.1 (HSM.out.2 d.init (by simp)) (HSM.out.2 d.upd (by simp)) (HSM.out.2 d.body (by simp)) (Y8.out.plx HKEY.out HSL.out)).mono ?_
 rintro e w9 ⟨rfl,hb9⟩
 have B9:=Hd (ae B8.out hb9)
 rw [HCK.out]
 clear hb9
 go_wp2_with fail
 go_ret
 exact ⟨rfl,B9.out⟩
end Go.Proofs.YtiefeajappjnbaaGreatDoor
