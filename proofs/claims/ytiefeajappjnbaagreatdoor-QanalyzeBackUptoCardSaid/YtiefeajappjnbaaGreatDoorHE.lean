/- The reference's visit of a checked program: datakitref38.names.visit. -/
import Derived.Test.YtiefeajappjnbaaGreatDoorGA
import Derived.Test.YtiefeajappjnbaaGreatDoorGY
import Derived.Test.YtiefeajappjnbaaGreatDoorVis39
import Derived.Test.YtiefeajappjnbaaGreatDoorGK
namespace Go.Proofs.YtiefeajappjnbaaGreatDoor
open Go.RowKit
def VrX (l:List al) (fa:Option Addr) (fc BE NE:Nat) (x:ag) (V:ScD→Int) (K:Nat):Prop:=∀ (w:World) (lo B B1 N C:Nat) (xs:List Value) (d:ScD) (cs:List Value),
 N≤1048576→C+K≤134217728→B≤w.heap.size→B1≤w.heap.size→lo≤w.heap.size→vx l fa BE NE w→dY d→ScD.At w lo B C d cs→ag.At w B1 N x xs →
 Calls Tryz.prog 86 #[.agg (nmC fa l.length fc).toArray,.agg xs.toArray,.agg cs.toArray] w (DA (V d) w)
def vf (xs:List Value):List Value:=(xs.set 15 (.slice none 0 0)).set 16 (.slice none 0 0)
theorem fE.cut {u:World} {q:Nat} {xs:List Value} {i:Int} (h:u.heap[q]?=some (.cells (vf xs).toArray 34 (0,0))) (hl:xs.length=17) (ho:xs.toArray.all (·.oneCell')=true) (h0:xs[0]?=some (.int .i64 i)):fE u q:=by
 refine ⟨vf xs,i,h,by simpa [vf] using hl,?_,?_,?_,?_⟩
 ·refine Go.all_oneCell_toArray (fun y hy=>?_)
  rcases List.mem_or_eq_of_mem_set hy with hy | rfl
  ·rcases List.mem_or_eq_of_mem_set hy with hy | rfl
   ·exact (List.all_eq_true.1 (by simpa using ho)) y hy
   ·rfl
  ·rfl
 ·unfold vf
  rw [List.getElem?_set_ne (by omega),List.getElem?_set_ne (by omega)];exact h0
 ·unfold vf
  rw [List.getElem?_set_ne (by omega),List.getElem?_set_self (by omega)]
 ·unfold vf
  rw [List.getElem?_set_self (by simp;omega)]
set_option maxRecDepth 100000 in
set_option maxHeartbeats 6400000 in
theorem oW (l:List al) (fa:Option Addr) (fc BE NE:Nat) (hll:l.length≤65536) (V:ag→ScD→Int) (K:Nat) (x:ag) (h23:x.op≠23→x.funcs=[]) (hnm:∀ f∈x.funcs,iq f.name=false∧∀ p∈f.params,iq p.name=false)
 (hA:∀ k (h:k<x.args.length),VrX l fa fc BE NE x.args[k] (V x.args[k]) K) (hF:∀ k (h:k<x.funcs.length),VrX l fa fc BE NE x.funcs[k].body (V x.funcs[k].body) K) :
 VrX l fa fc BE NE x (fh (b5 l) V x) (K+2097152):=by
 intro w lo B B1 N C xs d cs hN hC hB hB1 hlo hE hgs hd hx
 have IA:=Hd hA
 have IF:=Hd hF
 have HEV0:=Hd hE
 have HD:=Hd hd
 have HX:=Hd hx
 have HGS:=Hd hgs
 have HGF:=Hd (hgs.fns (l:=x.funcs) (fun f hf=>(hnm f hf).1))
 have HGP:=Hd (show ∀ k (h:k<x.funcs.length),dY ((d.fns x.funcs).par x.funcs[k].params) from fun k h=>HGF.out.par (hnm _ (List.getElem_mem h)).2)
 have HWI:=Hd (show ∀ k,d.wit x k=(d.fns x.funcs).inn x.op x.name k from fun k=>d.wit_inn k h23)
 have hsz:=Hd (show (Tryz.prog.info? 134).map (·.size)=some cs.length by rw [hd.len];kernel_rfl)
 have hsx:=Hd (show (Tryz.prog.info? 34).map (·.size)=some xs.length by rw [hx.len];exact ay)
 have hsx2:=Hd (show (Tryz.prog.info? 34).map (·.size)=some xs.toArray.size by rw [List.size_toArray,hx.len];exact ay)
 have h17z:=Hd (show bt.toArray.size=xs.toArray.size by rw [List.size_toArray,List.size_toArray,hx.len];rfl)
 have h17x:=Hd (show 17=xs.toArray.size by rw [List.size_toArray,hx.len])
 have hsn:=Hd (show (Tryz.prog.info? 128).map (·.size)=some (nmC fa l.length fc).length by kernel_rfl)
 have HXO:=Hd (show xs.toArray.all (·.oneCell')=true from Go.all_oneCell_toArray hx.one)
 have HXL:=Hd hx.len
 obtain ⟨aa,fb,ac,fd,vs,hh⟩:=hx.has
 have c0:=hh.op
 have c15:=hh.args
 have c16:=hh.funcs
 have hal:x.args.length≤N:=hh.own.2.2.1
 have hfl:x.funcs.length≤N:=hh.own.2.2.2
 have HAr:=Hd hh.atArgs
 have HU:=Hd hh.atFuncs
 have I0:=Hd (dK.start (nmC fa l.length fc) 128 134 34 34 w xs cs bt)
 have HLOW:=Hd hlo
 have HB1W:=Hd hB1
 have HKD:=Hd (show ∀ u,Below w.heap.size w u→ScD.At u lo u.heap.size C d cs from fun u h=>(HD.out.keep (a7.of_below (h.mono hB))).mono (Nat.le_trans hB h.size) (Nat.le_refl _))
 have HKX0:=Hd (show ∀ u,Below w.heap.size w u→ag.At u B1 N x xs from fun u h=>ag.At.below (h.mono hB1) _ HX.out)
 obtain ⟨z,hz⟩:∃ z,fh (b5 l) V x d=z:=⟨_,rfl⟩
 rw [hz]
 have HZ:=Hd hz
 clear hh hx hA hF hd hz hE hgs hnm h23
 go_enter Tryz.func86,Tryz.ntmps86
 go_wp2_with (first
  | (refine wpList_load_mid rfl 134 _ rfl (w.heap.size+1+1) 0 rfl cs _ I0.out.range Tryz.underlying134 rfl hsz.out ?_)
  | (refine wpList_load_mid rfl 34 _ rfl (w.heap.size+1) 0 rfl xs _ I0.out.r2.range Tryz.underlying34 rfl hsx.out ?_)
  | (refine wpList_load_mid rfl 128 _ rfl (w.heap.size) 0 rfl (nmC fa l.length fc) _ I0.out.r1.range Tryz.underlying128 rfl hsn.out ?_))
 obtain ⟨z0,hz0⟩:∃ z0,fo (b5 l) x d=z0:=⟨_,rfl⟩
 have HZ0N:=Hd hz0
 clear hz0
 refine (Bw l fa fc BE NE x xs d cs _ lo _ B1 C N hll (by omega) (Nat.le_refl _) (HEV0.out.then I0.out.low) HGS.out (HKD.out _ I0.out.low) (HKX0.out _ I0.out.low)).mono ?_
 unfold DF
 rw [HZ0N.out]
 rintro e u1 ⟨rfl,hf1⟩
 have I1:=Hd (I0.out.below hf1)
 clear hf1 I0
 have I2:=Hd (I1.out.below (af u1 (.cells xs.toArray 34)))
 have hq4:w.heap.size+4≤u1.heap.size:=I1.out.size
 have HQ:=Hd (heap_alloc_new u1 (.cells xs.toArray 34))
 by_cases hz0:z0=0
 case neg =>
  have HR:=Hd (show z=z0 by rw [← HZ.out];exact lH HZ0N.out hz0)
  have hz1:(z0 != 0)=true:=by simpa using hz0
  have hz2:(z0==0)=false:=by simpa using hz0
  clear hz0
  go_wp2_with (first
   | (refine ak rfl 34 _ _ rfl _ xs.toArray rfl rfl hsx2.out h17x.out HXO.out ?_)
   | (refine wpList_load_mid rfl 34 _ rfl (w.heap.size+1) 0 rfl xs _ I2.out.r2.range Tryz.underlying34 rfl hsx.out ?_)
   | (refine wpList_store_row rfl 34 _ _ rfl (w.heap.size+1+1+1) xs.toArray rfl rfl 34 _ I2.out.out hsx2.out h17z.out HXO.out ?_))
  have Z7:=setRow_heap (u1.alloc (.cells xs.toArray 34)) (w.heap.size+3) _ xs.toArray _ _ I2.out.out
  refine bodyPost_ret (ap rfl _ _ (w.heap.size+1+1+1) 34 _ (0,0) _ rfl Z7 Tryz.underlying34 rfl hsx2.out) rfl ?_
  exact ⟨xs,by rw [HR.out];rfl,HXL.out,HXO.out,I2.out.low.trans (aM _ _ (by omega))⟩
 subst hz0
 have HZ1:=Hd (show z=if fg V x.funcs (d.fns x.funcs) 0≠0 then fg V x.funcs (d.fns x.funcs) 0 else fN V x (d.fns x.funcs) 0 by rw [← HZ.out];exact pg HZ0N.out)
 have T4:=Hd (show fE (u1.alloc (.cells ((xs.set 15 (.slice none 0 0)).set 16 (.slice none 0 0)).toArray 34)) u1.heap.size from fE.cut (heap_alloc_new u1 _) HXL.out HXO.out c0)
 have I4:=Hd (I1.out.below (af u1 (.cells ((xs.set 15 (.slice none 0 0)).set 16 (.slice none 0 0)).toArray 34)))
 clear HZ0N HQ I2 I1
 go_wp2_with (refine ak rfl 34 _ _ rfl _ xs.toArray rfl rfl hsx2.out h17x.out HXO.out ?_)
 obtain ⟨u4,hu4⟩:∃ u4,u4=u1.alloc (.cells ((xs.set 15 (.slice none 0 0)).set 16 (.slice none 0 0)).toArray 34):=⟨_,rfl⟩
 rw [← hu4] at I4 T4 ⊢
 obtain ⟨q,hq⟩:∃ q,q=u1.heap.size:=⟨_,rfl⟩
 rw [← hq] at T4 hq4 ⊢
 clear hq hu4
 obtain ⟨z0f,hz0fs,hinfof⟩:=xl
 obtain ⟨i0f,hif,hz0f,hz1f,hz2f⟩:=info_parts hinfof
 have HIF:=Hd hif
 have HZ0F:=Hd hz0f
 have HZ1F:=Hd hz1f
 have HZ2F:=Hd hz2f
 have HZSF:=Hd hz0fs
 obtain ⟨HB,hHB⟩:∃ HB,HB=u4.heap.size:=⟨_,rfl⟩
 have HLB:=Hd (show w.heap.size≤HB by rw [hHB];exact I4.out.low.size)
 have L1:=Hd (show eO (nmC fa l.length fc) 134 w u4 xs cs lo HB C d q 16 72 19 0 from
  ⟨I4.out,by rw [hHB];exact HKD.out _ I4.out.low,T4.out.next (by rw [hHB];exact T4.out.lt) (by rw [hHB];exact Nat.le_refl _)⟩)
 have d16:=I4.out.r2.get0 c16
 clear hif hz0f hz1f hz2f hz0fs hinfof hHB T4 I4
 go_simp
 go_loopw [10] (fun i wr=>∃ k:Nat,k≤x.funcs.length∧i=.int .i64 k∧Hid (eO (nmC fa l.length fc) 134 w wr xs cs lo HB C d q 16 72 19 k)∧Hid (z=if fg V x.funcs (d.fns x.funcs) k≠0 then fg V x.funcs (d.fns x.funcs) k else fN V x (d.fns x.funcs) 0)) (fun i _=>x.funcs.length-(intOf i).toNat)
 case atStart=>exact ⟨0,by omega,rfl,L1,HZ1⟩
 case round =>
  obtain ⟨w1,rfl⟩:∃ w1,w1=wr:=⟨wr,rfl⟩
  clear L1 d16 HZ1
  obtain ⟨k,hk,rfl,L8,HZ1⟩:=hrel
  have I1:=Hd L8.out.vis
  have d16:=I1.out.r2.get0 c16
  have HLW:=Hd I1.out.low.size
  have HUP:=Hd (show ∀ u,Below w1.heap.size w1 u→Below w.heap.size w u from fun u hu=>I1.out.low.trans (hu.mono HLW.out))
  have HRW:=Hd (show ∀ u,Below w1.heap.size w1 u→aj u w.heap.size 0 (nmC fa l.length fc) from fun u hu=>(I1.out.below hu).r1)
  have HRX:=Hd (show ∀ u,Below w1.heap.size w1 u→aj u (w.heap.size+1) 0 xs from fun u hu=>(I1.out.below hu).r2)
  have HRS:=Hd (show ∀ u,Below w1.heap.size w1 u→dK (nmC fa l.length fc) 134 w u xs cs bt 34 from fun u hu=>I1.out.below hu)
  have HB1:=Hd (Nat.le_trans HB1W.out HLW.out)
  have HLO:=Hd (Nat.le_trans HLOW.out HLW.out)
  have HEN:=Hd (HEV0.out.then I1.out.low)
  have HKD1:=Hd (show ∀ u,Below w1.heap.size w1 u→ScD.At u lo u.heap.size C d cs from fun u hu=>HKD.out u (HUP.out u hu))
  by_cases hlt:k<x.funcs.length
  case pos =>
   obtain ⟨b,p,rfl,hb,hget⟩:=HU.out.get (by intro h;simp [h] at hlt)
   obtain ⟨fs,g1,g2⟩:=hget k hlt
   obtain ⟨es,g3,g4⟩:=al.At.bodyAt g1 g2
   obtain ⟨pa,pc,es2,gh⟩:=g2.has
   have f0:=gh.name
   have f1:=gh.params
   have hpl:x.funcs[k].params.length≤N:=gh.hp
   have HFW:=Hd (show ∀ u,Below w.heap.size w u→aj u b (p+k * 19) fs from fun u hu=>g1.below (hu.mono HB1W.out) hb)
   have HFR:=Hd (show ∀ u,Below w1.heap.size w1 u→aj u b (p+k * 19) fs from fun u hu=>HFW.out u (HUP.out u hu))
   have HER:=Hd (show ∀ u,Below w1.heap.size w1 u→aj u b (p+k * 19+2) es from fun u hu=>g3.below ((HUP.out u hu).mono HB1W.out) hb)
   have HKF:=Hd (show ∀ u,Below w1.heap.size w1 u→al.At u B1 N x.funcs[k] fs from fun u hu=>al.At.below ((HUP.out u hu).mono HB1W.out) _ g2)
   have HKE:=Hd (show ∀ u,Below w1.heap.size w1 u→ag.At u B1 N x.funcs[k].body es from fun u hu=>ag.At.below ((HUP.out u hu).mono HB1W.out) _ g4)
   have HKU:=Hd (show ∀ u,Below w1.heap.size w1 u→av u B1 N x.funcs (some ⟨b,p,none⟩) from fun u hu=>av.below ((HUP.out u hu).mono HB1W.out) _ HU.out)
   have hlf:=Hd (show (Tryz.prog.info? 72).map (·.size)=some fs.length by rw [g2.len];exact cj)
   have hle:=Hd (show (Tryz.prog.info? 34).map (·.size)=some es.length by rw [g4.len];exact ay)
   have HG2:=Hd (HGP.out k hlt)
   obtain ⟨ev,hev⟩:∃ ev,V x.funcs[k].body ((d.fns x.funcs).par x.funcs[k].params)=ev:=⟨_,rfl⟩
   have HEV:=Hd hev
   have HVF:=Hd (mV V (d.fns x.funcs) hlt)
   have hlti:(k:Int)<(x.funcs.length:Int):=by omega
   clear g1 g2 g3 g4 gh hget hev
   go_wp2_with fail
   have HB0:=Hd (cG w1)
   refine wp_region_held_drew (S:=fun u=>Below w1.heap.size w1 u) (by kernel_rfl) HB0.out (fun hHeld=>?_)
   refine' tk 0 _ rfl rfl (yieldsIf_load_mid (by kernel_rfl) 128 _ rfl (w.heap.size) (0) rfl (nmC fa l.length fc) _ (fun u hu=>(HRW.out _ hu).range) Tryz.underlying128 rfl hsn.out) hHeld ?_
   simp only [sq1,sq0]
   refine' tk 1 (.pointer (some ⟨w.heap.size+1,16,none⟩)) rfl rfl (.inl ⟨by rfl,fun u hu=>(by go_simp)⟩) hHeld ?_
   simp only [sq1,sq0]
   refine' tk 2 (.slice (some ⟨b,p,none⟩) x.funcs.length fd) rfl rfl (.inl ⟨by rfl,fun u hu=>(by have hc:=(HRX.out _ hu).get0 c16;go_simp)⟩) hHeld ?_
   simp only [sq1,sq0]
   refine' tk 3 (.int .i64 k) rfl rfl (.inl ⟨by rfl,fun u hu=>(by go_simp)⟩) hHeld ?_
   simp only [sq1,sq0]
   refine' tk 4 (.pointer (some ⟨b,p+k * 19,none⟩)) rfl rfl (.inl ⟨by rfl,fun u hu=>(by go_simp)⟩) hHeld ?_
   simp only [sq1,sq0]
   refine' tk 5 (.pointer (some ⟨b,p+k * 19+2,none⟩)) rfl rfl (.inl ⟨by rfl,fun u hu=>(by go_simp)⟩) hHeld ?_
   simp only [sq1,sq0]
   refine' tk 6 _ rfl rfl (yieldsIf_load_mid (by kernel_rfl) 34 _ rfl (b) (p+k * 19+2) rfl es _ (fun u hu=>(HER.out _ hu).range) Tryz.underlying34 rfl hle.out) hHeld ?_
   simp only [sq1,sq0]
   refine' tk 7 _ rfl rfl (yieldsIf_load_mid (by kernel_rfl) 134 _ rfl (w.heap.size+2) (0) rfl cs _ (fun u hu=>(HRS.out _ hu).range) Tryz.underlying134 rfl hsz.out) hHeld ?_
   simp only [sq1,sq0]
   refine' tk 8 (.pointer (some ⟨w.heap.size+1,16,none⟩)) rfl rfl (.inl ⟨by rfl,fun u hu=>(by go_simp)⟩) hHeld ?_
   simp only [sq1,sq0]
   refine' tk 9 (.slice (some ⟨b,p,none⟩) x.funcs.length fd) rfl rfl (.inl ⟨by rfl,fun u hu=>(by have hc:=(HRX.out _ hu).get0 c16;go_simp)⟩) hHeld ?_
   simp only [sq1,sq0]
   refine' tk 11 (.pointer (some ⟨w.heap.size+1,16,none⟩)) rfl rfl (.inl ⟨by rfl,fun u hu=>(by go_simp)⟩) hHeld ?_
   simp only [sq1,sq0]
   refine' tk 12 (.slice (some ⟨b,p,none⟩) x.funcs.length fd) rfl rfl (.inl ⟨by rfl,fun u hu=>(by have hc:=(HRX.out _ hu).get0 c16;go_simp)⟩) hHeld ?_
   simp only [sq1,sq0]
   refine' tk 13 (.int .i64 k) rfl rfl (.inl ⟨by rfl,fun u hu=>(by go_simp)⟩) hHeld ?_
   simp only [sq1,sq0]
   refine' tk 14 (.pointer (some ⟨b,p+k * 19,none⟩)) rfl rfl (.inl ⟨by rfl,fun u hu=>(by go_simp)⟩) hHeld ?_
   simp only [sq1,sq0]
   refine' tk 15 _ rfl rfl (yieldsIf_load_mid (by kernel_rfl) 72 _ rfl (b) (p+k * 19) rfl fs _ (fun u hu=>(HFR.out _ hu).range) Tryz.underlying72 rfl hlf.out) hHeld ?_
   simp only [sq1,sq0]
   refine wpAnyH_ready (rs:=[10,21]) (by kernel_rfl) (by simp) ?_
   refine AllReadyH.cons rfl (fun K hK=>?_) (AllReadyH.cons rfl (fun K hK=>?_) AllReadyH.nil)
   case' refine_1 =>
    go_simp
    refine (ia x.funcs (some ⟨b,p,none⟩) fd d cs _ lo _ C N (by omega) (by omega) hfl (Nat.le_refl _) (Nat.le_trans HLO.out HB0.out.size) (HKD1.out _ HB0.out) (av.mono (Nat.le_trans HB1.out HB0.out.size) _ (HKU.out _ HB0.out))).mono ?_
    rintro e uC0 ⟨cs2,rfl,hs2,hbC⟩
    have S2:=Hd hs2
    have HbC0:=Hd hbC
    have HC0:=Hd (ae HB0.out hbC)
    refine hK.out _ _ HC0.out (fun hHeld=>?_)
    clear hK K hbC hs2
    refine wpAnyH_ready (rs:=[16,21]) (by kernel_rfl) (by simp) ?_
    refine AllReadyH.cons rfl (fun K hK=>?_) (AllReadyH.cons rfl (fun K hK=>?_) AllReadyH.nil)
   case' refine_1.refine_1 =>
    go_simp
    refine (hI x.funcs[k] fs (d.fns x.funcs) cs2 _ lo _ (C+x.funcs.length) N (by omega) (by omega) (Nat.le_refl _) (Nat.le_trans HLO.out HC0.out.size) S2.out (al.At.mono (Nat.le_trans HB1.out HC0.out.size) _ (HKF.out _ HC0.out))).mono ?_
    rintro e uC1 ⟨_,cs3,rfl,rfl,hs3,hbC⟩
    have S3:=Hd hs3
    have HbC1:=Hd hbC
    have HC1:=Hd (ae HC0.out hbC)
    refine hK.out _ _ HC1.out (fun hHeld=>?_)
    clear hK K hbC hs3
    refine wpAnyH_ready (rs:=[17,21]) (by kernel_rfl) (by simp) ?_
    refine AllReadyH.cons rfl (fun K hK=>?_) (AllReadyH.cons rfl (fun K hK=>?_) AllReadyH.nil)
   case' refine_1.refine_1.refine_1 =>
    go_simp
    refine (IF.out k hlt _ lo _ B1 N _ es _ cs3 hN (by omega) (Nat.le_refl _) (Nat.le_trans HB1.out HC1.out.size) (Nat.le_trans HLO.out HC1.out.size) (HEN.out.then HC1.out) HG2.out S3.out (HKE.out _ HC1.out)).mono ?_
    rw [HEV.out]
    rintro e uC2 ⟨rs5,rfl,hl5,ho5,hbC⟩
    have HO5:=Hd ho5
    have HbC2:=Hd hbC
    have HC2:=Hd (ae HC1.out hbC)
    refine hK.out _ _ HC2.out (fun hHeld=>?_)
    clear hK K hbC ho5
    refine' tk 18 (.tuple #[.agg rs5.toArray,.int .i64 ev]) rfl rfl (.inl ⟨by rfl,fun u hu=>(by go_simp)⟩) hHeld ?_
    simp only [sq1,sq0]
    refine' tk 19 (.agg rs5.toArray) rfl rfl (.inl ⟨by rfl,fun u hu=>(by go_simp)⟩) hHeld ?_
    simp only [sq1,sq0]
    refine' tk 20 (.int .i64 ev) rfl rfl (.inl ⟨by rfl,fun u hu=>(by go_simp)⟩) hHeld ?_
    simp only [sq1,sq0]
    refine rd1 21 rfl (fun K hK=>?_)
    go_simp
    obtain ⟨uA,huA⟩:∃ uA,uA=uC2.alloc (.cells zE0 34):=⟨_,rfl⟩
    rw [← huA]
    have HbA:=Hd (show Below uC2.heap.size uC2 uA by rw [huA];exact af uC2 _)
    have ZA:=Hd (show uA.heap[uC2.heap.size]?=some (.cells zE0 34 (0,0)) by rw [huA];exact heap_alloc_new uC2 _)
    have HA:=Hd (ae HC2.out HbA.out)
    obtain ⟨q5,hq5⟩:∃ q5,q5=uC2.heap.size:=⟨_,rfl⟩
    have hqb:w1.heap.size≤q5:=by rw [hq5];exact HC2.out.size
    rw [← hq5] at ZA ⊢
    refine hK.out _ _ HA.out (fun hHeld=>?_)
    clear hK K huA hq5
    refine rd1 22 rfl (fun K hK=>?_)
    rw [if_pos (by kernel_rfl)]
    refine wp_store_row 34 _ _ rfl q5 rs5.toArray rfl rfl 34 _ ZA.out (by rw [List.size_toArray,hl5];exact ay) (show 17=rs5.toArray.size by rw [List.size_toArray,hl5]) HO5.out ?_
    simp only [List.getElem_toArray,List.getElem_cons_succ,List.getElem_cons_zero,Act.put]
    have R5:=Hd (show Below w1.heap.size w1 (World.setRow uA q5 rs5.toArray) from HA.out.trans (aM _ _ hqb))
    have Z5:=Hd (setRow_heap _ q5 _ rs5.toArray _ _ ZA.out)
    obtain ⟨u5,hu5⟩:∃ u5,u5=World.setRow uA q5 rs5.toArray:=⟨_,rfl⟩
    rw [← hu5] at R5 Z5 ⊢
    refine hK.out _ _ R5.out (fun hHeld=>?_)
    clear hK K hu5
    refine rd1 23 rfl (fun K hK=>?_)
    go_simp
    refine hK.out _ _ R5.out (fun hHeldx=>?_)
    clear hK K hHeldx
    refine wpAnyH_done (by kernel_rfl) ?_ _
   case' refine_1.refine_1.refine_2 =>
    go_simp
    obtain ⟨uA,huA⟩:∃ uA,uA=uC1.alloc (.cells zE0 34):=⟨_,rfl⟩
    rw [← huA]
    have HbA:=Hd (show Below uC1.heap.size uC1 uA by rw [huA];exact af uC1 _)
    have ZA:=Hd (show uA.heap[uC1.heap.size]?=some (.cells zE0 34 (0,0)) by rw [huA];exact heap_alloc_new uC1 _)
    have HA:=Hd (ae HC1.out HbA.out)
    obtain ⟨q5,hq5⟩:∃ q5,q5=uC1.heap.size:=⟨_,rfl⟩
    have hqb:w1.heap.size≤q5:=by rw [hq5];exact HC1.out.size
    rw [← hq5] at ZA ⊢
    have SA:=Hd ((S3.out.keep (a7.of_below HbA.out)).mono HbA.out.size (Nat.le_refl _))
    refine hK.out _ _ HA.out (fun hHeld=>?_)
    clear hK K huA hq5
    refine rd1 17 rfl (fun K hK=>?_)
    go_simp
    refine (IF.out k hlt _ lo _ B1 N _ es _ cs3 hN (by omega) (Nat.le_refl _) (Nat.le_trans HB1.out HA.out.size) (Nat.le_trans HLO.out HA.out.size) (HEN.out.then HA.out) HG2.out SA.out (HKE.out _ HA.out)).mono ?_
    rw [HEV.out]
    rintro e uC2 ⟨rs5,rfl,hl5,ho5,hbC⟩
    have HO5:=Hd ho5
    have HbC2:=Hd hbC
    have HC2:=Hd (ae HA.out hbC)
    have ZC2:=Hd ((HbC2.out.block _ (Array.getElem?_eq_some_iff.1 ZA.out).1).trans ZA.out)
    refine hK.out _ _ HC2.out (fun hHeld=>?_)
    clear hK K hbC ho5
    refine' tk 18 (.tuple #[.agg rs5.toArray,.int .i64 ev]) rfl rfl (.inl ⟨by rfl,fun u hu=>(by go_simp)⟩) hHeld ?_
    simp only [sq1,sq0]
    refine' tk 19 (.agg rs5.toArray) rfl rfl (.inl ⟨by rfl,fun u hu=>(by go_simp)⟩) hHeld ?_
    simp only [sq1,sq0]
    refine' tk 20 (.int .i64 ev) rfl rfl (.inl ⟨by rfl,fun u hu=>(by go_simp)⟩) hHeld ?_
    simp only [sq1,sq0]
    refine rd1 22 rfl (fun K hK=>?_)
    rw [if_pos (by kernel_rfl)]
    refine wp_store_row 34 _ _ rfl q5 rs5.toArray rfl rfl 34 _ ZC2.out (by rw [List.size_toArray,hl5];exact ay) (show 17=rs5.toArray.size by rw [List.size_toArray,hl5]) HO5.out ?_
    simp only [List.getElem_toArray,List.getElem_cons_succ,List.getElem_cons_zero,Act.put]
    have R5:=Hd (show Below w1.heap.size w1 (World.setRow uC2 q5 rs5.toArray) from HC2.out.trans (aM _ _ hqb))
    have Z5:=Hd (setRow_heap _ q5 _ rs5.toArray _ _ ZC2.out)
    obtain ⟨u5,hu5⟩:∃ u5,u5=World.setRow uC2 q5 rs5.toArray:=⟨_,rfl⟩
    rw [← hu5] at R5 Z5 ⊢
    refine hK.out _ _ R5.out (fun hHeld=>?_)
    clear hK K hu5
    refine rd1 23 rfl (fun K hK=>?_)
    go_simp
    refine hK.out _ _ R5.out (fun hHeldx=>?_)
    clear hK K hHeldx
    refine wpAnyH_done (by kernel_rfl) ?_ _
   case' refine_1.refine_2 =>
    go_simp
    obtain ⟨uA,huA⟩:∃ uA,uA=uC0.alloc (.cells zE0 34):=⟨_,rfl⟩
    rw [← huA]
    have HbA:=Hd (show Below uC0.heap.size uC0 uA by rw [huA];exact af uC0 _)
    have ZA:=Hd (show uA.heap[uC0.heap.size]?=some (.cells zE0 34 (0,0)) by rw [huA];exact heap_alloc_new uC0 _)
    have HA:=Hd (ae HC0.out HbA.out)
    obtain ⟨q5,hq5⟩:∃ q5,q5=uC0.heap.size:=⟨_,rfl⟩
    have hqb:w1.heap.size≤q5:=by rw [hq5];exact HC0.out.size
    rw [← hq5] at ZA ⊢
    have SA:=Hd ((S2.out.keep (a7.of_below HbA.out)).mono HbA.out.size (Nat.le_refl _))
    refine hK.out _ _ HA.out (fun hHeld=>?_)
    clear hK K huA hq5
    refine rd1 16 rfl (fun K hK=>?_)
    go_simp
    refine (hI x.funcs[k] fs (d.fns x.funcs) cs2 _ lo _ (C+x.funcs.length) N (by omega) (by omega) (Nat.le_refl _) (Nat.le_trans HLO.out HA.out.size) SA.out (al.At.mono (Nat.le_trans HB1.out HA.out.size) _ (HKF.out _ HA.out))).mono ?_
    rintro e uC1 ⟨_,cs3,rfl,rfl,hs3,hbC⟩
    have S3:=Hd hs3
    have HbC1:=Hd hbC
    have HC1:=Hd (ae HA.out hbC)
    have ZC1:=Hd ((HbC1.out.block _ (Array.getElem?_eq_some_iff.1 ZA.out).1).trans ZA.out)
    refine hK.out _ _ HC1.out (fun hHeld=>?_)
    clear hK K hbC hs3
    refine rd1 17 rfl (fun K hK=>?_)
    go_simp
    refine (IF.out k hlt _ lo _ B1 N _ es _ cs3 hN (by omega) (Nat.le_refl _) (Nat.le_trans HB1.out HC1.out.size) (Nat.le_trans HLO.out HC1.out.size) (HEN.out.then HC1.out) HG2.out S3.out (HKE.out _ HC1.out)).mono ?_
    rw [HEV.out]
    rintro e uC2 ⟨rs5,rfl,hl5,ho5,hbC⟩
    have HO5:=Hd ho5
    have HbC2:=Hd hbC
    have HC2:=Hd (ae HC1.out hbC)
    have ZC2:=Hd ((HbC2.out.block _ (Array.getElem?_eq_some_iff.1 ZC1.out).1).trans ZC1.out)
    refine hK.out _ _ HC2.out (fun hHeld=>?_)
    clear hK K hbC ho5
    refine' tk 18 (.tuple #[.agg rs5.toArray,.int .i64 ev]) rfl rfl (.inl ⟨by rfl,fun u hu=>(by go_simp)⟩) hHeld ?_
    simp only [sq1,sq0]
    refine' tk 19 (.agg rs5.toArray) rfl rfl (.inl ⟨by rfl,fun u hu=>(by go_simp)⟩) hHeld ?_
    simp only [sq1,sq0]
    refine' tk 20 (.int .i64 ev) rfl rfl (.inl ⟨by rfl,fun u hu=>(by go_simp)⟩) hHeld ?_
    simp only [sq1,sq0]
    refine rd1 22 rfl (fun K hK=>?_)
    rw [if_pos (by kernel_rfl)]
    refine wp_store_row 34 _ _ rfl q5 rs5.toArray rfl rfl 34 _ ZC2.out (by rw [List.size_toArray,hl5];exact ay) (show 17=rs5.toArray.size by rw [List.size_toArray,hl5]) HO5.out ?_
    simp only [List.getElem_toArray,List.getElem_cons_succ,List.getElem_cons_zero,Act.put]
    have R5:=Hd (show Below w1.heap.size w1 (World.setRow uC2 q5 rs5.toArray) from HC2.out.trans (aM _ _ hqb))
    have Z5:=Hd (setRow_heap _ q5 _ rs5.toArray _ _ ZC2.out)
    obtain ⟨u5,hu5⟩:∃ u5,u5=World.setRow uC2 q5 rs5.toArray:=⟨_,rfl⟩
    rw [← hu5] at R5 Z5 ⊢
    refine hK.out _ _ R5.out (fun hHeld=>?_)
    clear hK K hu5
    refine rd1 23 rfl (fun K hK=>?_)
    go_simp
    refine hK.out _ _ R5.out (fun hHeldx=>?_)
    clear hK K hHeldx
    refine wpAnyH_done (by kernel_rfl) ?_ _
   case' refine_2 =>
    go_simp
    obtain ⟨uA,huA⟩:∃ uA,uA=(w1.alloc (.cells zE0 34)).drew:=⟨_,rfl⟩
    rw [← huA]
    have HbA:=Hd (show Below w1.drew.heap.size w1.drew uA by rw [huA];exact af w1.drew _)
    have ZA:=Hd (show uA.heap[w1.heap.size]?=some (.cells zE0 34 (0,0)) by rw [huA];exact heap_alloc_new w1 _)
    have HA:=Hd (ae HB0.out HbA.out)
    obtain ⟨q5,hq5⟩:∃ q5,q5=w1.heap.size:=⟨_,rfl⟩
    have hqb:w1.heap.size≤q5:=by rw [hq5];exact Nat.le_refl _
    rw [← hq5] at ZA ⊢
    refine hK.out _ _ HA.out (fun hHeld=>?_)
    clear hK K huA hq5
    refine rd1 10 rfl (fun K hK=>?_)
    go_simp
    refine (ia x.funcs (some ⟨b,p,none⟩) fd d cs _ lo _ C N (by omega) (by omega) hfl (Nat.le_refl _) (Nat.le_trans HLO.out HA.out.size) (HKD1.out _ HA.out) (av.mono (Nat.le_trans HB1.out HA.out.size) _ (HKU.out _ HA.out))).mono ?_
    rintro e uC0 ⟨cs2,rfl,hs2,hbC⟩
    have S2:=Hd hs2
    have HbC0:=Hd hbC
    have HC0:=Hd (ae HA.out hbC)
    have ZC0:=Hd ((HbC0.out.block _ (Array.getElem?_eq_some_iff.1 ZA.out).1).trans ZA.out)
    refine hK.out _ _ HC0.out (fun hHeld=>?_)
    clear hK K hbC hs2
    refine rd1 16 rfl (fun K hK=>?_)
    go_simp
    refine (hI x.funcs[k] fs (d.fns x.funcs) cs2 _ lo _ (C+x.funcs.length) N (by omega) (by omega) (Nat.le_refl _) (Nat.le_trans HLO.out HC0.out.size) S2.out (al.At.mono (Nat.le_trans HB1.out HC0.out.size) _ (HKF.out _ HC0.out))).mono ?_
    rintro e uC1 ⟨_,cs3,rfl,rfl,hs3,hbC⟩
    have S3:=Hd hs3
    have HbC1:=Hd hbC
    have HC1:=Hd (ae HC0.out hbC)
    have ZC1:=Hd ((HbC1.out.block _ (Array.getElem?_eq_some_iff.1 ZC0.out).1).trans ZC0.out)
    refine hK.out _ _ HC1.out (fun hHeld=>?_)
    clear hK K hbC hs3
    refine rd1 17 rfl (fun K hK=>?_)
    go_simp
    refine (IF.out k hlt _ lo _ B1 N _ es _ cs3 hN (by omega) (Nat.le_refl _) (Nat.le_trans HB1.out HC1.out.size) (Nat.le_trans HLO.out HC1.out.size) (HEN.out.then HC1.out) HG2.out S3.out (HKE.out _ HC1.out)).mono ?_
    rw [HEV.out]
    rintro e uC2 ⟨rs5,rfl,hl5,ho5,hbC⟩
    have HO5:=Hd ho5
    have HbC2:=Hd hbC
    have HC2:=Hd (ae HC1.out hbC)
    have ZC2:=Hd ((HbC2.out.block _ (Array.getElem?_eq_some_iff.1 ZC1.out).1).trans ZC1.out)
    refine hK.out _ _ HC2.out (fun hHeld=>?_)
    clear hK K hbC ho5
    refine' tk 18 (.tuple #[.agg rs5.toArray,.int .i64 ev]) rfl rfl (.inl ⟨by rfl,fun u hu=>(by go_simp)⟩) hHeld ?_
    simp only [sq1,sq0]
    refine' tk 19 (.agg rs5.toArray) rfl rfl (.inl ⟨by rfl,fun u hu=>(by go_simp)⟩) hHeld ?_
    simp only [sq1,sq0]
    refine' tk 20 (.int .i64 ev) rfl rfl (.inl ⟨by rfl,fun u hu=>(by go_simp)⟩) hHeld ?_
    simp only [sq1,sq0]
    refine rd1 22 rfl (fun K hK=>?_)
    rw [if_pos (by kernel_rfl)]
    refine wp_store_row 34 _ _ rfl q5 rs5.toArray rfl rfl 34 _ ZC2.out (by rw [List.size_toArray,hl5];exact ay) (show 17=rs5.toArray.size by rw [List.size_toArray,hl5]) HO5.out ?_
    simp only [List.getElem_toArray,List.getElem_cons_succ,List.getElem_cons_zero,Act.put]
    have R5:=Hd (show Below w1.heap.size w1 (World.setRow uC2 q5 rs5.toArray) from HC2.out.trans (aM _ _ hqb))
    have Z5:=Hd (setRow_heap _ q5 _ rs5.toArray _ _ ZC2.out)
    obtain ⟨u5,hu5⟩:∃ u5,u5=World.setRow uC2 q5 rs5.toArray:=⟨_,rfl⟩
    rw [← hu5] at R5 Z5 ⊢
    refine hK.out _ _ R5.out (fun hHeld=>?_)
    clear hK K hu5
    refine rd1 23 rfl (fun K hK=>?_)
    go_simp
    refine hK.out _ _ R5.out (fun hHeldx=>?_)
    clear hK K hHeldx
    refine wpAnyH_done (by kernel_rfl) ?_ _
   all_goals
    have L9:=Hd (L8.out.below R5.out)
    have HF5:=Hd (HFR.out _ R5.out)
    clear d16
    by_cases hev0:ev=0
    case neg =>
     have HR:=Hd (show z=ev by
      have h1:=HZ1.out
      rw [HVF.out,HEV.out,if_pos hev0,if_pos hev0] at h1
      exact h1)
     have hev1:(ev != 0)=true:=by simpa using hev0
     have hev2:(ev==0)=false:=by simpa using hev0
     have I9:=Hd L9.out.vis
     clear hev0 hHeld
     go_wp2_with (first
      | (refine wpList_load_mid rfl 34 _ rfl (w.heap.size+1) 0 rfl xs _ I9.out.r2.range Tryz.underlying34 rfl hsx.out ?_)
      | (refine wpList_store_row rfl 34 _ _ rfl (w.heap.size+1+1+1) xs.toArray rfl rfl 34 _ I9.out.out hsx2.out h17z.out HXO.out ?_))
     have Z7:=setRow_heap u5 (w.heap.size+3) _ xs.toArray _ _ I9.out.out
     refine bodyPost_ret (ap rfl _ _ (w.heap.size+1+1+1) 34 _ (0,0) _ rfl Z7 Tryz.underlying34 rfl hsx2.out) rfl ?_
     exact ⟨xs,by rw [HR.out];rfl,HXL.out,HXO.out,I9.out.low.trans (aM _ _ (by omega))⟩
    subst hev0
    have HZ2:=Hd (show z=if fg V x.funcs (d.fns x.funcs) (k+1)≠0 then fg V x.funcs (d.fns x.funcs) (k+1) else fN V x (d.fns x.funcs) 0 by
     have h1:=HZ1.out
     have hv0:=HVF.out
     rw [HEV.out,if_neg (by decide)] at hv0
     rw [hv0] at h1
     exact h1)
    obtain ⟨rs,i,v,xr,t1,t2,t3,t4,t5,t6,t7⟩:=L9.out.ret.has
    obtain ⟨va,vc,rfl⟩:=dD t7
    have HX1:=Hd t1
    have HX2:=Hd t2
    have HX3:=Hd t3
    have HX4:=Hd t4
    have HX5:=Hd (t5 rfl)
    have HX6:=Hd t6
    have HX7:=Hd t7
    have HHB:=Hd L9.out.ret.size
    have hql:=L9.out.ret.lt
    have hhb:=L9.out.ret.size
    have hbq:b<q:=by have:=HB1W.out;omega
    have I9:=Hd L9.out.vis
    have HL5:=Hd hl5
    have HQ5L:=Hd (Array.getElem?_eq_some_iff.1 Z5.out).1
    have z16:u5.cell? ⟨q,16,none⟩=some (.slice va k vc):=by
     have:=cf t1 16 _ t6
     rwa [Nat.zero_add] at this
    have HZ16:=Hd z16
    have HXC:=Hd (show ∀ u,Below q u5 u→aj u (w.heap.size+1) 0 xs from fun u hu=>I9.out.r2.below hu (by omega))
    have HFC:=Hd (show ∀ u,Below q u5 u→aj u b (p+k * 19) fs from fun u hu=>HF5.out.below hu hbq)
    have hl53:=Hd (show (Tryz.prog.info? 34).map (·.size)=some rs5.length by rw [hl5];exact ay)
    have hqq:HB≤q5:=by
     have:=L8.out.ret.size
     omega
    obtain ⟨ns,hns⟩:∃ ns:List Value,ns=.string x.funcs[k].name::.slice pa x.funcs[k].params.length pc::rs5:=⟨_,rfl⟩
    have HNL:=Hd (show ns.length=19 by rw [hns];simp [hl5])
    have HNO:=Hd (show ∀ u∈ns,u.oneCell'=true from fun u hu=>by
     rw [hns] at hu
     rcases List.mem_cons.1 hu with rfl | hu
     ·rfl
     ·rcases List.mem_cons.1 hu with rfl | hu
      ·rfl
      ·exact List.all_eq_true.1 (by simpa using HO5.out) u hu)
    have hfz:=tm x.funcs[k].name pa x.funcs[k].params.length pc rs5 hl5
    rw [← hns] at hfz
    have hfz2:=dk ns #[.string ⟨#[]⟩,.slice none 0 0,.int .i64 0,.string ⟨#[]⟩,.int .i64 0,.bool false,.bool false,.string ⟨#[]⟩,.int .i64 0,.int .i64 0,.int .i64 0,.int .i64 0,.int .i64 0,.string ⟨#[]⟩,.slice none 0 0,.slice none 0 0,.slice none 0 0,.slice none 0 0,.slice none 0 0] (by rw [HNL.out];rfl)
    have HA4:=Hd (show k+1≤maxLen by unfold maxLen;omega)
    have HA5:=Hd (show (k+1) * 280≤140737488355328 by omega)
    have hnl:=HNL.out
    clear t1 t2 t3 t4 t5 t6 t7 hHeld hns z16
    go_wp2_with fail
    have D5:=Hd (cG u5)
    refine wp_region_held_drew (S:=fun u=>Below q u5 u∧u.heap[q5]?=some (.cells rs5.toArray 34 (0,0))) (by kernel_rfl) ⟨D5.out.mono (by omega),Z5.out⟩ (fun hHeld=>?_)
    refine' tk 0 (.pointer (some ⟨q,16,none⟩)) rfl rfl (.inl ⟨by rfl,fun u hu=>(by go_simp)⟩) hHeld ?_
    simp only [sq1,sq0]
    refine' tk 2 (.pointer (some ⟨w.heap.size+1,16,none⟩)) rfl rfl (.inl ⟨by rfl,fun u hu=>(by go_simp)⟩) hHeld ?_
    simp only [sq1,sq0]
    refine' tk 3 (.slice (some ⟨b,p,none⟩) x.funcs.length fd) rfl rfl (.inl ⟨by rfl,fun u hu=>(by have hc:=(HXC.out _ hu.1).get0 c16;go_simp)⟩) hHeld ?_
    simp only [sq1,sq0]
    refine' tk 4 (.int .i64 k) rfl rfl (.inl ⟨by rfl,fun u hu=>(by go_simp)⟩) hHeld ?_
    simp only [sq1,sq0]
    refine' tk 5 (.pointer (some ⟨b,p+k * 19,none⟩)) rfl rfl (.inl ⟨by rfl,fun u hu=>(by go_simp)⟩) hHeld ?_
    simp only [sq1,sq0]
    refine' tk 6 (.pointer (some ⟨b,p+k * 19,none⟩)) rfl rfl (.inl ⟨by rfl,fun u hu=>(by go_simp)⟩) hHeld ?_
    simp only [sq1,sq0]
    refine' tk 7 (.string x.funcs[k].name) rfl rfl (.inl ⟨by rfl,fun u hu=>(by have hc:=(HFC.out _ hu.1).get0' f0;go_simp)⟩) hHeld ?_
    simp only [sq1,sq0]
    refine' tk 8 (.pointer (some ⟨w.heap.size+1,16,none⟩)) rfl rfl (.inl ⟨by rfl,fun u hu=>(by go_simp)⟩) hHeld ?_
    simp only [sq1,sq0]
    refine' tk 9 (.slice (some ⟨b,p,none⟩) x.funcs.length fd) rfl rfl (.inl ⟨by rfl,fun u hu=>(by have hc:=(HXC.out _ hu.1).get0 c16;go_simp)⟩) hHeld ?_
    simp only [sq1,sq0]
    refine' tk 10 (.int .i64 k) rfl rfl (.inl ⟨by rfl,fun u hu=>(by go_simp)⟩) hHeld ?_
    simp only [sq1,sq0]
    refine' tk 11 (.pointer (some ⟨b,p+k * 19,none⟩)) rfl rfl (.inl ⟨by rfl,fun u hu=>(by go_simp)⟩) hHeld ?_
    simp only [sq1,sq0]
    refine' tk 12 (.pointer (some ⟨b,p+k * 19+1,none⟩)) rfl rfl (.inl ⟨by rfl,fun u hu=>(by go_simp)⟩) hHeld ?_
    simp only [sq1,sq0]
    refine' tk 13 (.slice pa x.funcs[k].params.length pc) rfl rfl (.inl ⟨by rfl,fun u hu=>(by have hc:=(HFC.out _ hu.1).range 1 _ f1;go_simp)⟩) hHeld ?_
    simp only [sq1,sq0]
    refine' tk 14 _ rfl rfl (yieldsIf_load_mid (by kernel_rfl) 34 _ rfl (q5) (0) rfl rs5 _ (fun u hu=>cf hu.2) Tryz.underlying34 rfl hl53.out) hHeld ?_
    simp only [sq1,sq0]
    refine' tk 15 (.agg ns.toArray) rfl rfl (.inl ⟨by rfl,fun u hu=>(by go_simp)⟩) hHeld ?_
    simp only [sq1,sq0]
    refine wpAnyH_ready (rs:=[1,16]) (by kernel_rfl) (by simp) ?_
    refine AllReadyH.cons rfl (fun K hK=>?_) (AllReadyH.cons rfl (fun K hK=>?_) AllReadyH.nil)
    case' refine_1 =>
     have z16D:u5.drew.cell? ⟨q,16,none⟩=some (.slice va k vc):=HZ16.out
     go_simp
     refine hK.out _ _ hHeld (fun hHeldx=>?_)
     clear hK K hHeldx z16D
     refine rd1 16 rfl (fun K hK=>?_)
     go_simp
     obtain ⟨uA,huA⟩:∃ uA,uA=(u5.alloc (.cells ns.toArray 72)).drew:=⟨_,rfl⟩
     rw [← huA]
     have HBA:=Hd (show Below u5.heap.size u5 uA by rw [huA];exact (af u5 _).trans ⟨rfl,rfl,rfl,Nat.le_refl _,fun _ _=>rfl⟩)
     have HOA:=Hd (show uA.ownsRow HB 72 19 (.slice va k vc) k xr by rw [huA];exact HX7.out.alloc _)
     have HSR:=Hd (show ∀ j u,ns[j]?=some u→uA.cell? ((⟨u5.heap.size,0,none⟩:Addr).add j)=some u by rw [huA];exact (dh u5 ns 72 1).2 _ rfl)
     have HHA:=Hd (show HB≤uA.heap.size from Nat.le_trans HHB.out HBA.out.size)
     have HGA:=Hd (show ∀ (u6:World) (row:Option Nat),uA.grownBy u6 row→(u5.alloc (.cells ns.toArray 72)).grownBy u6 row from fun u6 row hg=>by rw [huA] at hg;exact ⟨hg.os,hg.tape,hg.output,hg.size,fun k hk hn=>hg.block k hk hn⟩)
     have HZA:=Hd (show uA.heap[q5]?=some (.cells rs5.toArray 34 (0,0)) from (HBA.out.block _ HQ5L.out).trans Z5.out)
     have HGS6:=Hd (show ∀ u6:World,uA.grownBy u6 (Value.slice va k vc).ownBlock→Below q u5 u6∧u6.heap[q5]?=some (.cells rs5.toArray 34 (0,0)) from fun u6 hg=>by
      have hne:∀ g,(Value.slice va k vc).ownBlock=some g→HB≤g∧g≠q5:=fun g hg2=>by
       refine ⟨(HOA.out.lt g hg2).1,fun e=>?_⟩
       rw [e] at hg2
       rcases HOA.out.2 with ⟨h1,_⟩ | ⟨g',cap,cur,h1,_,h2,_⟩
       ·rw [h1] at hg2;simp [Value.ownBlock] at hg2
       ·rw [h1] at hg2
        have e5:g'=q5:=by simpa [Value.ownBlock] using hg2
        rw [e5,HZA.out] at h2
        simp at h2
      refine ⟨⟨hg.os.trans HBA.out.os,hg.tape.trans HBA.out.tape,hg.output.trans HBA.out.output,Nat.le_trans HBA.out.size hg.size,fun j hj=>?_⟩,?_⟩
      ·exact (hg.block j (by have:=HBA.out.size;omega) (fun e=>by have:=(hne j e.symm).1;omega)).trans (HBA.out.block j (by omega))
      ·exact (hg.block q5 (Nat.lt_of_lt_of_le HQ5L.out HBA.out.size) (fun e=>(hne q5 e.symm).2 rfl)).trans HZA.out)
     have HSA:=Hd (show Below q u5 uA∧uA.heap[q5]?=some (.cells rs5.toArray 34 (0,0)) from ⟨HBA.out.mono (by omega),HZA.out⟩)
     have z16A:uA.cell? ⟨q,16,none⟩=some (.slice va k vc):=(HBA.out.cell (by show q<u5.heap.size;omega)).trans HZ16.out
     refine hK.out _ _ HSA.out (fun hHeldx=>?_)
     clear hK K hHeldx huA
     refine rd1 17 rfl (fun K hK=>?_)
     rw [if_pos (by kernel_rfl)]
     refine wp_append_own uA _ _ 32 rfl HB 72 i0f (.agg z0f) 19 280 Tryz.underlying32 HIF.out HZ0F.out HZ1F.out HZ2F.out HZSF.out (by decide) (.slice va k vc) k xr rfl HOA.out ⟨u5.heap.size,0,none⟩ 1 1 ns rfl HNL.out HSR.out HNO.out HA4.out HA5.out HHA.out (fun v6 u6 hown6 hg6 _=>?_)
     obtain ⟨a6,c6,rfl⟩:=dD hown6
     obtain ⟨l6,f6,g6⟩:=L9.out.grow (o:=.cells ns.toArray 72) hq4 (by omega) (by omega) HX1.out HX2.out HX3.out HX4.out (fun _=>HX5.out) HX6.out HX7.out hown6 (HGA.out _ _ hg6)
     have L6:=Hd l6
     have HS6:=Hd (show Below q u5 u6∧u6.heap[q5]?=some (.cells rs5.toArray 34 (0,0)) from HGS6.out _ hg6)
     have HS7:=Hd (show Below q u5 (u6.setCell ⟨q,16,none⟩ (.slice a6 (k+1) c6))∧(u6.setCell ⟨q,16,none⟩ (.slice a6 (k+1) c6)).heap[q5]?=some (.cells rs5.toArray 34 (0,0)) from ⟨HS6.out.1.trans (iv _ _ _ (Nat.le_refl _)),(heap_setCell_other _ _ _ _ (by show q5≠q;omega)).trans HS6.out.2⟩)
     refine hK.out _ _ HS6.out (fun hHeldx=>?_)
     clear hK K hHeldx hown6 hg6 l6
     refine rd1 18 rfl (fun K hK=>?_)
     go_simp
     refine hK.out _ _ HS6.out (fun hHeldx=>?_)
     clear hK K hHeldx
     refine rd1 19 rfl (fun K hK=>?_)
     go_simp
     refine hK.out _ _ HS7.out (fun hHeldx=>?_)
     clear hK K hHeldx
     refine wpAnyH_done (by kernel_rfl) ?_ _
    case' refine_2 =>
     go_simp
     obtain ⟨uA,huA⟩:∃ uA,uA=(u5.alloc (.cells ns.toArray 72)).drew:=⟨_,rfl⟩
     rw [← huA]
     have HBA:=Hd (show Below u5.heap.size u5 uA by rw [huA];exact (af u5 _).trans ⟨rfl,rfl,rfl,Nat.le_refl _,fun _ _=>rfl⟩)
     have HOA:=Hd (show uA.ownsRow HB 72 19 (.slice va k vc) k xr by rw [huA];exact HX7.out.alloc _)
     have HSR:=Hd (show ∀ j u,ns[j]?=some u→uA.cell? ((⟨u5.heap.size,0,none⟩:Addr).add j)=some u by rw [huA];exact (dh u5 ns 72 1).2 _ rfl)
     have HHA:=Hd (show HB≤uA.heap.size from Nat.le_trans HHB.out HBA.out.size)
     have HGA:=Hd (show ∀ (u6:World) (row:Option Nat),uA.grownBy u6 row→(u5.alloc (.cells ns.toArray 72)).grownBy u6 row from fun u6 row hg=>by rw [huA] at hg;exact ⟨hg.os,hg.tape,hg.output,hg.size,fun k hk hn=>hg.block k hk hn⟩)
     have HZA:=Hd (show uA.heap[q5]?=some (.cells rs5.toArray 34 (0,0)) from (HBA.out.block _ HQ5L.out).trans Z5.out)
     have HGS6:=Hd (show ∀ u6:World,uA.grownBy u6 (Value.slice va k vc).ownBlock→Below q u5 u6∧u6.heap[q5]?=some (.cells rs5.toArray 34 (0,0)) from fun u6 hg=>by
      have hne:∀ g,(Value.slice va k vc).ownBlock=some g→HB≤g∧g≠q5:=fun g hg2=>by
       refine ⟨(HOA.out.lt g hg2).1,fun e=>?_⟩
       rw [e] at hg2
       rcases HOA.out.2 with ⟨h1,_⟩ | ⟨g',cap,cur,h1,_,h2,_⟩
       ·rw [h1] at hg2;simp [Value.ownBlock] at hg2
       ·rw [h1] at hg2
        have e5:g'=q5:=by simpa [Value.ownBlock] using hg2
        rw [e5,HZA.out] at h2
        simp at h2
      refine ⟨⟨hg.os.trans HBA.out.os,hg.tape.trans HBA.out.tape,hg.output.trans HBA.out.output,Nat.le_trans HBA.out.size hg.size,fun j hj=>?_⟩,?_⟩
      ·exact (hg.block j (by have:=HBA.out.size;omega) (fun e=>by have:=(hne j e.symm).1;omega)).trans (HBA.out.block j (by omega))
      ·exact (hg.block q5 (Nat.lt_of_lt_of_le HQ5L.out HBA.out.size) (fun e=>(hne q5 e.symm).2 rfl)).trans HZA.out)
     have HSA:=Hd (show Below q u5 uA∧uA.heap[q5]?=some (.cells rs5.toArray 34 (0,0)) from ⟨HBA.out.mono (by omega),HZA.out⟩)
     have z16A:uA.cell? ⟨q,16,none⟩=some (.slice va k vc):=(HBA.out.cell (by show q<u5.heap.size;omega)).trans HZ16.out
     refine hK.out _ _ HSA.out (fun hHeldx=>?_)
     clear hK K hHeldx huA
     refine rd1 1 rfl (fun K hK=>?_)
     go_simp
     refine hK.out _ _ HSA.out (fun hHeldx=>?_)
     clear hK K hHeldx
     refine rd1 17 rfl (fun K hK=>?_)
     rw [if_pos (by kernel_rfl)]
     refine wp_append_own uA _ _ 32 rfl HB 72 i0f (.agg z0f) 19 280 Tryz.underlying32 HIF.out HZ0F.out HZ1F.out HZ2F.out HZSF.out (by decide) (.slice va k vc) k xr rfl HOA.out ⟨u5.heap.size,0,none⟩ 1 1 ns rfl HNL.out HSR.out HNO.out HA4.out HA5.out HHA.out (fun v6 u6 hown6 hg6 _=>?_)
     obtain ⟨a6,c6,rfl⟩:=dD hown6
     obtain ⟨l6,f6,g6⟩:=L9.out.grow (o:=.cells ns.toArray 72) hq4 (by omega) (by omega) HX1.out HX2.out HX3.out HX4.out (fun _=>HX5.out) HX6.out HX7.out hown6 (HGA.out _ _ hg6)
     have L6:=Hd l6
     have HS6:=Hd (show Below q u5 u6∧u6.heap[q5]?=some (.cells rs5.toArray 34 (0,0)) from HGS6.out _ hg6)
     have HS7:=Hd (show Below q u5 (u6.setCell ⟨q,16,none⟩ (.slice a6 (k+1) c6))∧(u6.setCell ⟨q,16,none⟩ (.slice a6 (k+1) c6)).heap[q5]?=some (.cells rs5.toArray 34 (0,0)) from ⟨HS6.out.1.trans (iv _ _ _ (Nat.le_refl _)),(heap_setCell_other _ _ _ _ (by show q5≠q;omega)).trans HS6.out.2⟩)
     refine hK.out _ _ HS6.out (fun hHeldx=>?_)
     clear hK K hHeldx hown6 hg6 l6
     refine rd1 18 rfl (fun K hK=>?_)
     go_simp
     refine hK.out _ _ HS6.out (fun hHeldx=>?_)
     clear hK K hHeldx
     refine rd1 19 rfl (fun K hK=>?_)
     go_simp
     refine hK.out _ _ HS7.out (fun hHeldx=>?_)
     clear hK K hHeldx
     refine wpAnyH_done (by kernel_rfl) ?_ _
    all_goals
     clear hHeld hfz hfz2 hnl
     go_wp2_with fail
     go_roundw
   case rel=>exact ⟨k+1,by omega,by go_num,L6,HZ2⟩
   case measure=>simp [intOf];omega
   case rel=>exact ⟨k+1,by omega,by go_num,L6,HZ2⟩
   case measure=>simp [intOf];omega
   case rel=>exact ⟨k+1,by omega,by go_num,L6,HZ2⟩
   case measure=>simp [intOf];omega
   case rel=>exact ⟨k+1,by omega,by go_num,L6,HZ2⟩
   case measure=>simp [intOf];omega
   case rel=>exact ⟨k+1,by omega,by go_num,L6,HZ2⟩
   case measure=>simp [intOf];omega
   case rel=>exact ⟨k+1,by omega,by go_num,L6,HZ2⟩
   case measure=>simp [intOf];omega
   case rel=>exact ⟨k+1,by omega,by go_num,L6,HZ2⟩
   case measure=>simp [intOf];omega
   case rel=>exact ⟨k+1,by omega,by go_num,L6,HZ2⟩
   case measure=>simp [intOf];omega
  case neg =>
   obtain rfl:k=x.funcs.length:=by omega
   obtain ⟨z0,hz0s,hinfo⟩:=xm
   obtain ⟨i0,hi,hz0,hz1,hz2⟩:=info_parts hinfo
   have HI0:=Hd hi
   have HZ0:=Hd hz0
   have HZ1E:=Hd hz1
   have HZ2:=Hd hz2
   have HZS:=Hd hz0s
   have L7:=Hd (show eO (nmC fa l.length fc) 134 w w1 xs cs lo HB C d q 15 34 17 0 from ⟨L8.out.vis,L8.out.sc,L8.out.ret.next⟩)
   have HZ7:=Hd (show z=fN V x (d.fns x.funcs) 0 by
    have h1:=HZ1.out
    rw [oY,if_neg (by decide)] at h1
    exact h1)
   have d15:=L8.out.vis.r2.get0 c15
   clear hi hz0 hz1 hz2 hz0s hinfo L8 HIF HZ0F HZ1F HZ2F HZSF HU IF HZ1 HRW HRX HRS HB1 HLO HEN HKD1 HUP HLW I1
   go_wp2_with fail
   go_simp
   go_loopw [13] (fun i wr=>∃ k:Nat,k≤x.args.length∧i=.int .i64 k∧Hid (eO (nmC fa l.length fc) 134 w wr xs cs lo HB C d q 15 34 17 k)∧Hid (z=fN V x (d.fns x.funcs) k)) (fun i _=>x.args.length-(intOf i).toNat)
   case atStart=>exact ⟨0,by omega,rfl,L7,HZ7⟩
   case round =>
    obtain ⟨w1,rfl⟩:∃ w',w'=wr:=⟨wr,rfl⟩
    clear L7 d15 d16 HZ7
    obtain ⟨k,hk,rfl,L8,HZ7⟩:=hrel
    have I1:=Hd L8.out.vis
    have d15:=I1.out.r2.get0 c15
    by_cases hlt:k<x.args.length
    case pos =>
     obtain ⟨b,p,rfl,hb,hget⟩:=HAr.out.get (by intro h;simp [h] at hlt)
     obtain ⟨es,g1,g2⟩:=hget k hlt
     have HLW:=Hd I1.out.low.size
     have HUP:=Hd (show ∀ u,Below w1.heap.size w1 u→Below w.heap.size w u from fun u hu=>I1.out.low.trans (hu.mono HLW.out))
     have HRW:=Hd (show ∀ u,Below w1.heap.size w1 u→aj u w.heap.size 0 (nmC fa l.length fc) from fun u hu=>(I1.out.below hu).r1)
     have HRX:=Hd (show ∀ u,Below w1.heap.size w1 u→aj u (w.heap.size+1) 0 xs from fun u hu=>(I1.out.below hu).r2)
     have HRS:=Hd (show ∀ u,Below w1.heap.size w1 u→dK (nmC fa l.length fc) 134 w u xs cs bt 34 from fun u hu=>I1.out.below hu)
     have HB1:=Hd (Nat.le_trans HB1W.out HLW.out)
     have HLO:=Hd (Nat.le_trans HLOW.out HLW.out)
     have HEN:=Hd (HEV0.out.then I1.out.low)
     have HKD1:=Hd (show ∀ u,Below w1.heap.size w1 u→ScD.At u lo u.heap.size C d cs from fun u hu=>HKD.out u (HUP.out u hu))
     have HKX:=Hd (show ∀ u,Below w1.heap.size w1 u→ag.At u B1 N x xs from fun u hu=>HKX0.out u (HUP.out u hu))
     have HER:=Hd (show ∀ u,Below w1.heap.size w1 u→aj u b (p+k * 17) es from fun u hu=>g1.below ((HUP.out u hu).mono HB1W.out) hb)
     have HKE:=Hd (show ∀ u,Below w1.heap.size w1 u→ag.At u B1 N x.args[k] es from fun u hu=>ag.At.below ((HUP.out u hu).mono HB1W.out) _ g2)
     have hle:=Hd (show (Tryz.prog.info? 34).map (·.size)=some es.length by rw [g2.len];exact ay)
     have HG2:=Hd (show dY (d.wit x k) by rw [HWI.out];exact HGF.out.inn)
     obtain ⟨ev,hev⟩:∃ ev,V x.args[k] (d.wit x k)=ev:=⟨_,rfl⟩
     have HEV:=Hd hev
     have HEV2:=Hd (show V x.args[k] ((d.fns x.funcs).inn x.op x.name k)=ev by rw [← HWI.out];exact hev)
     have HVA:=Hd (mW V (d.fns x.funcs) hlt)
     have hlti:(k:Int)<(x.args.length:Int):=by omega
     clear g1 g2 hget hev
     go_wp2_with fail
     have HB0:=Hd (cG w1)
     refine wp_region_held_drew (S:=fun u=>Below w1.heap.size w1 u) (by kernel_rfl) HB0.out (fun hHeld=>?_)
     refine' tk 0 _ rfl rfl (yieldsIf_load_mid (by kernel_rfl) 128 _ rfl (w.heap.size) (0) rfl (nmC fa l.length fc) _ (fun u hu=>(HRW.out _ hu).range) Tryz.underlying128 rfl hsn.out) hHeld ?_
     simp only [sq1,sq0]
     refine' tk 1 (.pointer (some ⟨w.heap.size+1,15,none⟩)) rfl rfl (.inl ⟨by rfl,fun u hu=>(by go_simp)⟩) hHeld ?_
     simp only [sq1,sq0]
     refine' tk 2 (.slice (some ⟨b,p,none⟩) x.args.length ac) rfl rfl (.inl ⟨by rfl,fun u hu=>(by have hc:=(HRX.out _ hu).get0 c15;go_simp)⟩) hHeld ?_
     simp only [sq1,sq0]
     refine' tk 3 (.int .i64 k) rfl rfl (.inl ⟨by rfl,fun u hu=>(by go_simp)⟩) hHeld ?_
     simp only [sq1,sq0]
     refine' tk 4 (.pointer (some ⟨b,p+k * 17,none⟩)) rfl rfl (.inl ⟨by rfl,fun u hu=>(by go_simp)⟩) hHeld ?_
     simp only [sq1,sq0]
     refine' tk 5 _ rfl rfl (yieldsIf_load_mid (by kernel_rfl) 34 _ rfl (b) (p+k * 17) rfl es _ (fun u hu=>(HER.out _ hu).range) Tryz.underlying34 rfl hle.out) hHeld ?_
     simp only [sq1,sq0]
     refine' tk 6 _ rfl rfl (yieldsIf_load_mid (by kernel_rfl) 34 _ rfl (w.heap.size+1) (0) rfl xs _ (fun u hu=>(HRX.out _ hu).range) Tryz.underlying34 rfl hsx.out) hHeld ?_
     simp only [sq1,sq0]
     refine' tk 7 (.int .i64 k) rfl rfl (.inl ⟨by rfl,fun u hu=>(by go_simp)⟩) hHeld ?_
     simp only [sq1,sq0]
     refine' tk 8 _ rfl rfl (yieldsIf_load_mid (by kernel_rfl) 134 _ rfl (w.heap.size+2) (0) rfl cs _ (fun u hu=>(HRS.out _ hu).range) Tryz.underlying134 rfl hsz.out) hHeld ?_
     simp only [sq1,sq0]
     refine wpAnyH_ready (rs:=[9,14]) (by kernel_rfl) (by simp) ?_
     refine AllReadyH.cons rfl (fun K hK=>?_) (AllReadyH.cons rfl (fun K hK=>?_) AllReadyH.nil)
     case' refine_1 =>
      go_simp
      refine (oV x xs k d cs _ lo _ C N (by omega) (by omega) (by omega) (Nat.le_refl _) (Nat.le_trans HLO.out HB0.out.size) (HKD1.out _ HB0.out) (ag.At.mono (Nat.le_trans HB1.out HB0.out.size) _ (HKX.out _ HB0.out))).mono ?_
      rintro e uC0 ⟨_,cs2,rfl,rfl,hs2,hbC⟩
      have S2:=Hd hs2
      have HbC0:=Hd hbC
      have HC0:=Hd (ae HB0.out hbC)
      refine hK.out _ _ HC0.out (fun hHeld=>?_)
      clear hK K hbC hs2
      refine wpAnyH_ready (rs:=[10,14]) (by kernel_rfl) (by simp) ?_
      refine AllReadyH.cons rfl (fun K hK=>?_) (AllReadyH.cons rfl (fun K hK=>?_) AllReadyH.nil)
     case' refine_1.refine_1 =>
      go_simp
      refine (IA.out k hlt _ lo _ B1 N _ es _ cs2 hN (by omega) (Nat.le_refl _) (Nat.le_trans HB1.out HC0.out.size) (Nat.le_trans HLO.out HC0.out.size) (HEN.out.then HC0.out) HG2.out S2.out (HKE.out _ HC0.out)).mono ?_
      rw [HEV.out]
      rintro e uC1 ⟨rs5,rfl,hl5,ho5,hbC⟩
      have HO5:=Hd ho5
      have HbC1:=Hd hbC
      have HC1:=Hd (ae HC0.out hbC)
      refine hK.out _ _ HC1.out (fun hHeld=>?_)
      clear hK K hbC ho5
      refine' tk 11 (.tuple #[.agg rs5.toArray,.int .i64 ev]) rfl rfl (.inl ⟨by rfl,fun u hu=>(by go_simp)⟩) hHeld ?_
      simp only [sq1,sq0]
      refine' tk 12 (.agg rs5.toArray) rfl rfl (.inl ⟨by rfl,fun u hu=>(by go_simp)⟩) hHeld ?_
      simp only [sq1,sq0]
      refine' tk 13 (.int .i64 ev) rfl rfl (.inl ⟨by rfl,fun u hu=>(by go_simp)⟩) hHeld ?_
      simp only [sq1,sq0]
      refine rd1 14 rfl (fun K hK=>?_)
      go_simp
      obtain ⟨uA,huA⟩:∃ uA,uA=uC1.alloc (.cells zE0 34):=⟨_,rfl⟩
      rw [← huA]
      have HbA:=Hd (show Below uC1.heap.size uC1 uA by rw [huA];exact af uC1 _)
      have ZA:=Hd (show uA.heap[uC1.heap.size]?=some (.cells zE0 34 (0,0)) by rw [huA];exact heap_alloc_new uC1 _)
      have HA:=Hd (ae HC1.out HbA.out)
      obtain ⟨q5,hq5⟩:∃ q5,q5=uC1.heap.size:=⟨_,rfl⟩
      have hqb:w1.heap.size≤q5:=by rw [hq5];exact HC1.out.size
      rw [← hq5] at ZA ⊢
      refine hK.out _ _ HA.out (fun hHeld=>?_)
      clear hK K huA hq5
      refine rd1 15 rfl (fun K hK=>?_)
      rw [if_pos (by kernel_rfl)]
      refine wp_store_row 34 _ _ rfl q5 rs5.toArray rfl rfl 34 _ ZA.out (by rw [List.size_toArray,hl5];exact ay) (show 17=rs5.toArray.size by rw [List.size_toArray,hl5]) HO5.out ?_
      simp only [List.getElem_toArray,List.getElem_cons_succ,List.getElem_cons_zero,Act.put]
      have R5:=Hd (show Below w1.heap.size w1 (World.setRow uA q5 rs5.toArray) from HA.out.trans (aM _ _ hqb))
      have Z5:=Hd (setRow_heap _ q5 _ rs5.toArray _ _ ZA.out)
      obtain ⟨u5,hu5⟩:∃ u5,u5=World.setRow uA q5 rs5.toArray:=⟨_,rfl⟩
      rw [← hu5] at R5 Z5 ⊢
      refine hK.out _ _ R5.out (fun hHeld=>?_)
      clear hK K hu5
      refine rd1 16 rfl (fun K hK=>?_)
      go_simp
      refine hK.out _ _ R5.out (fun hHeldx=>?_)
      clear hK K hHeldx
      refine wpAnyH_done (by kernel_rfl) ?_ _
     case' refine_1.refine_2 =>
      go_simp
      obtain ⟨uA,huA⟩:∃ uA,uA=uC0.alloc (.cells zE0 34):=⟨_,rfl⟩
      rw [← huA]
      have HbA:=Hd (show Below uC0.heap.size uC0 uA by rw [huA];exact af uC0 _)
      have ZA:=Hd (show uA.heap[uC0.heap.size]?=some (.cells zE0 34 (0,0)) by rw [huA];exact heap_alloc_new uC0 _)
      have HA:=Hd (ae HC0.out HbA.out)
      obtain ⟨q5,hq5⟩:∃ q5,q5=uC0.heap.size:=⟨_,rfl⟩
      have hqb:w1.heap.size≤q5:=by rw [hq5];exact HC0.out.size
      rw [← hq5] at ZA ⊢
      have SA:=Hd ((S2.out.keep (a7.of_below HbA.out)).mono HbA.out.size (Nat.le_refl _))
      refine hK.out _ _ HA.out (fun hHeld=>?_)
      clear hK K huA hq5
      refine rd1 10 rfl (fun K hK=>?_)
      go_simp
      refine (IA.out k hlt _ lo _ B1 N _ es _ cs2 hN (by omega) (Nat.le_refl _) (Nat.le_trans HB1.out HA.out.size) (Nat.le_trans HLO.out HA.out.size) (HEN.out.then HA.out) HG2.out SA.out (HKE.out _ HA.out)).mono ?_
      rw [HEV.out]
      rintro e uC1 ⟨rs5,rfl,hl5,ho5,hbC⟩
      have HO5:=Hd ho5
      have HbC1:=Hd hbC
      have HC1:=Hd (ae HA.out hbC)
      have ZC1:=Hd ((HbC1.out.block _ (Array.getElem?_eq_some_iff.1 ZA.out).1).trans ZA.out)
      refine hK.out _ _ HC1.out (fun hHeld=>?_)
      clear hK K hbC ho5
      refine' tk 11 (.tuple #[.agg rs5.toArray,.int .i64 ev]) rfl rfl (.inl ⟨by rfl,fun u hu=>(by go_simp)⟩) hHeld ?_
      simp only [sq1,sq0]
      refine' tk 12 (.agg rs5.toArray) rfl rfl (.inl ⟨by rfl,fun u hu=>(by go_simp)⟩) hHeld ?_
      simp only [sq1,sq0]
      refine' tk 13 (.int .i64 ev) rfl rfl (.inl ⟨by rfl,fun u hu=>(by go_simp)⟩) hHeld ?_
      simp only [sq1,sq0]
      refine rd1 15 rfl (fun K hK=>?_)
      rw [if_pos (by kernel_rfl)]
      refine wp_store_row 34 _ _ rfl q5 rs5.toArray rfl rfl 34 _ ZC1.out (by rw [List.size_toArray,hl5];exact ay) (show 17=rs5.toArray.size by rw [List.size_toArray,hl5]) HO5.out ?_
      simp only [List.getElem_toArray,List.getElem_cons_succ,List.getElem_cons_zero,Act.put]
      have R5:=Hd (show Below w1.heap.size w1 (World.setRow uC1 q5 rs5.toArray) from HC1.out.trans (aM _ _ hqb))
      have Z5:=Hd (setRow_heap _ q5 _ rs5.toArray _ _ ZC1.out)
      obtain ⟨u5,hu5⟩:∃ u5,u5=World.setRow uC1 q5 rs5.toArray:=⟨_,rfl⟩
      rw [← hu5] at R5 Z5 ⊢
      refine hK.out _ _ R5.out (fun hHeld=>?_)
      clear hK K hu5
      refine rd1 16 rfl (fun K hK=>?_)
      go_simp
      refine hK.out _ _ R5.out (fun hHeldx=>?_)
      clear hK K hHeldx
      refine wpAnyH_done (by kernel_rfl) ?_ _
     case' refine_2 =>
      go_simp
      obtain ⟨uA,huA⟩:∃ uA,uA=(w1.alloc (.cells zE0 34)).drew:=⟨_,rfl⟩
      rw [← huA]
      have HbA:=Hd (show Below w1.drew.heap.size w1.drew uA by rw [huA];exact af w1.drew _)
      have ZA:=Hd (show uA.heap[w1.heap.size]?=some (.cells zE0 34 (0,0)) by rw [huA];exact heap_alloc_new w1 _)
      have HA:=Hd (ae HB0.out HbA.out)
      obtain ⟨q5,hq5⟩:∃ q5,q5=w1.heap.size:=⟨_,rfl⟩
      have hqb:w1.heap.size≤q5:=by rw [hq5];exact Nat.le_refl _
      rw [← hq5] at ZA ⊢
      refine hK.out _ _ HA.out (fun hHeld=>?_)
      clear hK K huA hq5
      refine rd1 9 rfl (fun K hK=>?_)
      go_simp
      refine (oV x xs k d cs _ lo _ C N (by omega) (by omega) (by omega) (Nat.le_refl _) (Nat.le_trans HLO.out HA.out.size) (HKD1.out _ HA.out) (ag.At.mono (Nat.le_trans HB1.out HA.out.size) _ (HKX.out _ HA.out))).mono ?_
      rintro e uC0 ⟨_,cs2,rfl,rfl,hs2,hbC⟩
      have S2:=Hd hs2
      have HbC0:=Hd hbC
      have HC0:=Hd (ae HA.out hbC)
      have ZC0:=Hd ((HbC0.out.block _ (Array.getElem?_eq_some_iff.1 ZA.out).1).trans ZA.out)
      refine hK.out _ _ HC0.out (fun hHeld=>?_)
      clear hK K hbC hs2
      refine rd1 10 rfl (fun K hK=>?_)
      go_simp
      refine (IA.out k hlt _ lo _ B1 N _ es _ cs2 hN (by omega) (Nat.le_refl _) (Nat.le_trans HB1.out HC0.out.size) (Nat.le_trans HLO.out HC0.out.size) (HEN.out.then HC0.out) HG2.out S2.out (HKE.out _ HC0.out)).mono ?_
      rw [HEV.out]
      rintro e uC1 ⟨rs5,rfl,hl5,ho5,hbC⟩
      have HO5:=Hd ho5
      have HbC1:=Hd hbC
      have HC1:=Hd (ae HC0.out hbC)
      have ZC1:=Hd ((HbC1.out.block _ (Array.getElem?_eq_some_iff.1 ZC0.out).1).trans ZC0.out)
      refine hK.out _ _ HC1.out (fun hHeld=>?_)
      clear hK K hbC ho5
      refine' tk 11 (.tuple #[.agg rs5.toArray,.int .i64 ev]) rfl rfl (.inl ⟨by rfl,fun u hu=>(by go_simp)⟩) hHeld ?_
      simp only [sq1,sq0]
      refine' tk 12 (.agg rs5.toArray) rfl rfl (.inl ⟨by rfl,fun u hu=>(by go_simp)⟩) hHeld ?_
      simp only [sq1,sq0]
      refine' tk 13 (.int .i64 ev) rfl rfl (.inl ⟨by rfl,fun u hu=>(by go_simp)⟩) hHeld ?_
      simp only [sq1,sq0]
      refine rd1 15 rfl (fun K hK=>?_)
      rw [if_pos (by kernel_rfl)]
      refine wp_store_row 34 _ _ rfl q5 rs5.toArray rfl rfl 34 _ ZC1.out (by rw [List.size_toArray,hl5];exact ay) (show 17=rs5.toArray.size by rw [List.size_toArray,hl5]) HO5.out ?_
      simp only [List.getElem_toArray,List.getElem_cons_succ,List.getElem_cons_zero,Act.put]
      have R5:=Hd (show Below w1.heap.size w1 (World.setRow uC1 q5 rs5.toArray) from HC1.out.trans (aM _ _ hqb))
      have Z5:=Hd (setRow_heap _ q5 _ rs5.toArray _ _ ZC1.out)
      obtain ⟨u5,hu5⟩:∃ u5,u5=World.setRow uC1 q5 rs5.toArray:=⟨_,rfl⟩
      rw [← hu5] at R5 Z5 ⊢
      refine hK.out _ _ R5.out (fun hHeld=>?_)
      clear hK K hu5
      refine rd1 16 rfl (fun K hK=>?_)
      go_simp
      refine hK.out _ _ R5.out (fun hHeldx=>?_)
      clear hK K hHeldx
      refine wpAnyH_done (by kernel_rfl) ?_ _
     all_goals
      have L9:=Hd (L8.out.below R5.out)
      clear d15
      by_cases hev0:ev=0
      case neg =>
       have HR:=Hd (show z=ev by
        have h1:=HZ7.out
        rw [HVA.out,HEV2.out,if_pos hev0] at h1
        exact h1)
       have hev1:(ev != 0)=true:=by simpa using hev0
       have hev2:(ev==0)=false:=by simpa using hev0
       have I9:=Hd L9.out.vis
       clear hev0 hHeld
       go_wp2_with (first
        | (refine wpList_load_mid rfl 34 _ rfl (w.heap.size+1) 0 rfl xs _ I9.out.r2.range Tryz.underlying34 rfl hsx.out ?_)
        | (refine wpList_store_row rfl 34 _ _ rfl (w.heap.size+1+1+1) xs.toArray rfl rfl 34 _ I9.out.out hsx2.out h17z.out HXO.out ?_))
       have Z7:=setRow_heap u5 (w.heap.size+3) _ xs.toArray _ _ I9.out.out
       refine bodyPost_ret (ap rfl _ _ (w.heap.size+1+1+1) 34 _ (0,0) _ rfl Z7 Tryz.underlying34 rfl hsx2.out) rfl ?_
       exact ⟨xs,by rw [HR.out];rfl,HXL.out,HXO.out,I9.out.low.trans (aM _ _ (by omega))⟩
      subst hev0
      have HZ8:=Hd (show z=fN V x (d.fns x.funcs) (k+1) by
       have h1:=HZ7.out
       rw [HVA.out,HEV2.out,if_neg (by decide)] at h1
       exact h1)
      have hl53:=Hd (show (Tryz.prog.info? 34).map (·.size)=some rs5.length by rw [hl5];exact ay)
      have HBY:=Hd (cf Z5.out)
      obtain ⟨rs,i,v,xr,t1,t2,t3,t4,t5,t6,t7⟩:=L9.out.ret.has
      have HX1:=Hd t1
      have HX2:=Hd t2
      have HX3:=Hd t3
      have HX4:=Hd t4
      have HX6:=Hd t6
      have HX7:=Hd t7
      have HA3:=Hd (show ∀ u∈rs5,u.oneCell'=true from fun u hu=>List.all_eq_true.1 (by simpa using HO5.out) u hu)
      have HA4:=Hd (show k+1≤maxLen by unfold maxLen;omega)
      have HA5:=Hd (show (k+1) * 240≤140737488355328 by omega)
      have HA6:=Hd (show HB≤(u5.alloc (.cells rs5.toArray 34)).heap.size from Nat.le_trans L9.out.ret.size (by rw [World.size_alloc u5];exact Nat.le_succ _))
      have z15:u5.cell? ⟨q,15,none⟩=some v:=by
       have:=cf t1 15 v t6
       rwa [Nat.zero_add] at this
      have hfz:=dk rs5 zE0 (by rw [hl5];rfl)
      have HL5:=Hd (show rs5.length=1 * 17 from hl5)
      clear t1 t2 t3 t4 t5 t6 t7 hHeld
      go_wp2_with (first
       | (at_builtin;refine aU rfl _ _ 31 rfl HB 34 i0 (.agg z0) 17 240 Tryz.underlying31 HI0.out HZ0.out HZ1E.out HZ2.out HZS.out (by decide) v k xr rfl (HX7.out.alloc _) (some ⟨u5.heap.size,0,none⟩) 1 1 rs5 rfl HL5.out (dh _ rs5 34 1) HA3.out HA4.out HA5.out HA6.out ?_)
       | (refine wpList_load_mid rfl 34 _ rfl q5 0 rfl rs5 _ HBY.out Tryz.underlying34 rfl hl53.out ?_))
      intro v6 u6 hown6 hg6
      obtain ⟨a6,c6,rfl⟩:=dD hown6
      obtain ⟨l6,f6,g6⟩:=L9.out.grow hq4 (by omega) (by omega) HX1.out HX2.out HX3.out HX4.out (fun h=>absurd h (by decide)) HX6.out HX7.out hown6 hg6
      have L6:=Hd l6
      clear hown6 hg6 l6 z15 hfz hl5
      go_wp2_with fail
      go_roundw
     case rel=>exact ⟨k+1,by omega,by go_num,L6,HZ8⟩
     case measure=>simp [intOf];omega
     case rel=>exact ⟨k+1,by omega,by go_num,L6,HZ8⟩
     case measure=>simp [intOf];omega
     case rel=>exact ⟨k+1,by omega,by go_num,L6,HZ8⟩
     case measure=>simp [intOf];omega
    case neg =>
     obtain rfl:k=x.args.length:=by omega
     have HRZ:=Hd (show z=0 by rw [HZ7.out,oZ])
     obtain ⟨rs,i,v,xr,t1,t2,t3,t4,t5,t6,t7⟩:=L8.out.ret.has
     have HX1:=Hd (cf t1)
     have hs17:=Hd (show (Tryz.prog.info? 34).map (·.size)=some rs.length by rw [t2];exact ay)
     have hs18:=Hd (show (Tryz.prog.info? 34).map (·.size)=some rs.toArray.size by rw [List.size_toArray,t2];exact ay)
     have h17:=Hd (show bt.toArray.size=rs.toArray.size by simp only [List.size_toArray,t2];rfl)
     have HX2:=Hd t2
     have HX3:=Hd t3
     have Q0:=Hd L8.out.vis.out
     clear t1 t2 t3 t4 t5 t6 t7
     go_wp2_with (first
      | (refine wpList_load_mid rfl 34 _ rfl q 0 rfl rs _ HX1.out Tryz.underlying34 rfl hs17.out ?_)
      | (refine wpList_store_row rfl 34 _ _ rfl (w.heap.size+3) rs.toArray rfl rfl 34 bt.toArray Q0.out hs18.out h17.out HX3.out ?_))
     have Z7:=setRow_heap w1 (w.heap.size+3) _ rs.toArray _ _ Q0.out
     refine bodyPost_ret (ap rfl _ _ (w.heap.size+1+1+1) 34 _ (0,0) _ rfl Z7 Tryz.underlying34 rfl hs18.out) rfl ?_
     exact ⟨rs,by rw [HRZ.out];rfl,HX2.out,HX3.out,L8.out.vis.low.trans (aM _ _ (by omega))⟩
def vdR:Nat→ag→Prop
 | 0,e=>e.args=[]∧e.funcs=[]
 | m+1,e=>(e.op≠23→e.funcs=[])∧(∀ f∈e.funcs,iq f.name=false∧∀ p∈f.params,iq p.name=false)∧(∀ a∈e.args,vdR m a)∧∀ f∈e.funcs,vdR m f.body
theorem sg (l:List al) (fa:Option Addr) (fc BE NE:Nat) (hll:l.length≤65536) (m:Nat):∀ x,vdR m x→VrX l fa fc BE NE x (gT (b5 l) m x) ((m+1) * 2097152):=by
 induction m with
 | zero =>
   intro x h
   obtain ⟨ha,hf⟩:=h
   have h:=oW l fa fc BE NE hll (fun _ _=>0) 0 x (fun _=>hf) (fun f h=>by rw [hf] at h;simp at h) (fun k h=>by rw [ha] at h;simp at h) (fun k h=>by rw [hf] at h;simp at h)
   have e:fh (b5 l) (fun _ _=>0) x=gT (b5 l) 0 x:=by
    funext d
    show fh (b5 l) (fun _ _=>0) x d=fo (b5 l) x d
    unfold fh fg fN
    rw [ha,hf]
    by_cases h0:fo (b5 l) x d=0
    ·rw [h0];rfl
    ·rw [if_pos h0]
   rw [e] at h
   simpa using h
 | succ m ih =>
   intro x h
   have h1:=oW l fa fc BE NE hll (gT (b5 l) m) ((m+1) * 2097152) x h.1 h.2.1 (fun k hk=>ih _ (h.2.2.1 _ (List.getElem_mem hk))) (fun k hk=>ih _ (h.2.2.2 _ (List.getElem_mem hk)))
   have e:(m+1) * 2097152+2097152=(m+1+1) * 2097152:=by omega
   rw [e] at h1
   exact h1
end Go.Proofs.YtiefeajappjnbaaGreatDoor

/- What an accepted expression is: its names are identifiers, so none has :: in it; only a QDef has functions. No program here. -/
namespace Go.Proofs.YtiefeajappjnbaaGreatDoor
open Go.RowKit
theorem C6:ld 58=false:=by decide
theorem wG {s:ByteArray} (h:ey s=true):∀ c∈s.data.toList,ld c=true:=by
 unfold ey at h
 rw [Bool.and_eq_true] at h
 obtain ⟨h1,h2⟩:=h
 have h0:0<s.size:=by simpa using h1
 have h3:cd s 0=s.size:=by simpa using h2
 cases hl:cD s[0].toNat
 ·rw [fJ s 0 h0 hl] at h3;omega
 ·rw [el s 0 h0 hl] at h3
  unfold dC at h3
  rw [List.drop_zero] at h3
  have hsz:s.data.toList.length=s.size:=Array.length_toList
  have hp:=List.takeWhile_prefix ld (l:=s.data.toList)
  have he:s.data.toList.takeWhile ld=s.data.toList:=hp.eq_of_length (by rw [h3,hsz])
  intro c hc
  rw [← he] at hc
  exact List.all_eq_true.1 (List.all_takeWhile (p:=ld) (l:=s.data.toList)) c hc
theorem ku {s:ByteArray} (h:aC s=true):iq s=false:=by
 have hn:ey s=true:=by
  unfold aC at h
  rw [Bool.and_eq_true,Bool.and_eq_true] at h
  exact h.1.1
 have ha:=wG hn
 unfold iq Lib.contains
 rw [Lib.index_none (fun j hj=>?_)]
 ·rfl
 ·cases ho:Lib.occAt s.data.toList [58,58] j
  ·rfl
  ·exfalso
   have h58:(58:UInt8)∈s.data.toList:=by
    simp only [Lib.occAt,List.isPrefixOf_iff_prefix] at ho
    have hp:[58,58] <+: s.data.toList.drop j:=ho
    have h1:(58:UInt8)∈s.data.toList.drop j:=hp.subset (by simp)
    exact List.mem_of_mem_drop h1
   have:=ha 58 h58
   rw [C6] at this
   cases this
theorem jk (idB:ByteArray→Bool):∀ (l:List aZ) (seen:List ByteArray),i7 idB seen l=0→∀ p∈l,idB p.name=true
 | [],_,_=>by simp
 | x::r,seen,h=>by
   simp only [i7] at h
   split at h
   ·simp at h
   ·split at h
    ·simp at h
    ·rename_i h1 h2
     intro p hp
     rcases List.mem_cons.1 hp with rfl | hp
     ·simpa using h1
     ·exact jk idB r _ h p hp
theorem rC {idB:ByteArray→Bool} {seen:List ByteArray} {nm:ByteArray} {ps:List aZ} (h:eM idB seen nm ps=0):idB nm=true∧∀ p∈ps,idB p.name=true:=by
 unfold eM at h
 split at h
 ·simp at h
 ·split at h
  ·simp at h
  ·split at h
   ·rename_i hh;exact absurd h hh
   ·rename_i h1 h2 h3
    exact ⟨by simpa using h1,jk idB ps [] (by simpa using h3)⟩
theorem l9 (idB:ByteArray→Bool) (f:ag→Int→Int×Int):∀ (l:List al) (seen:List ByteArray) (s y:Int),cF idB f seen l s=(y,0)→∀ u∈l,idB u.name=true∧∀ p∈u.params,idB p.name=true
 | [],_,_,_,_=>by simp
 | x::r,seen,s,y,h=>by
   simp only [cF] at h
   split at h
   ·rename_i hh
    rw [Prod.mk.injEq] at h
    exact absurd h.2 hh
   ·split at h
    ·rename_i h1 hh
     rw [h] at hh
     exact absurd rfl hh
    ·rename_i h1 h2
     intro u hu
     rcases List.mem_cons.1 hu with rfl | hu
     ·exact rC (by simpa using h1)
     ·exact l9 idB f r _ _ _ h u hu
theorem vI (m:Nat) {e:ag} (hq:qdE e) (ha:e.args=[]) (hf:e.funcs=[]):vdE m e:=by
 cases m with
 | zero=>exact ⟨hq,ha,hf⟩
 | succ m=>exact ⟨hq,by rw [hf];simp,by rw [ha];simp,by rw [hf];simp⟩
theorem vH (m:Nat) {e:ag} (ha:e.args=[]) (hf:e.funcs=[]):vdR m e:=by
 cases m with
 | zero=>exact ⟨ha,hf⟩
 | succ m=>exact ⟨fun _=>hf,by rw [hf];simp,by rw [ha];simp,by rw [hf];simp⟩
theorem rm (rgB:ag→Bool):∀ (m:Nat) (x:ag) (s y:Int),aV aC rgB (m+1) x s=(y,0)→vdE m x∧vdR m x:=by
 intro m
 induction m with
 | zero =>
   intro x s y h
   have hg:=nx aC rgB 0 x s y h
   exact ⟨⟨A3 hg,hg.2⟩,hg.2⟩
 | succ m ih =>
   intro x s y h0
   have hg:=nx aC rgB (m+1) x s y h0
   have h':=h0
   rw [aV] at h'
   split at h'
   ·simp at h'
   split at h'
   ·simp at h'
   split at h'
   ·rename_i hc;simp at h';exact absurd h'.2 hc.2
   split at h'
   ·simp at h'
   split at h'
   ·simp at h'
   split at h'
   ·rename_i hh;rw [h'] at hh;exact absurd rfl hh
   ·rename_i hfb hc _ _ h2
    have hfb':bh x=true:=by simpa using hfb
    have h3:=Classical.not_not.1 h2
    obtain ⟨p,q,hpq⟩:∃ p q,cF aC (aV aC rgB (m+1)) [] x.funcs (s+1)=(p,q):=⟨_,_,rfl⟩
    rw [hpq] at h3 h'
    obtain rfl:q=0:=h3
    have hnm:=l9 aC _ x.funcs [] (s+1) p hpq
    have hcol:∀ f∈x.funcs,iq f.name=false∧∀ p∈f.params,iq p.name=false:=fun f hf=>⟨ku (hnm f hf).1,fun p hp=>ku ((hnm f hf).2 p hp)⟩
    have ih2:∀ x s y,aV aC rgB (m+1) x s=(y,0)→(vdE m x∧vdR m x)∧y=s+ndE m x:=fun x s y h=>⟨ih x s y h,(eX aC rgB m x s y h).2⟩
    obtain ⟨f1,_⟩:=fe aC (aV aC rgB (m+1)) (fun u=>vdE m u∧vdR m u) (ndE m) ih2 x.funcs [] (s+1) p hpq
    obtain ⟨k1,_⟩:=eY (m+1) (aV aC rgB (m+1)) (fun u=>vdE m u∧vdR m u) (ndE m) ih2 x.args _ y (fun u hu ho _=>by
     obtain ⟨a1,a2⟩:=jW hfb' hu ho
     exact ⟨⟨vI m (yI hfb' hu ho) a1 a2,vH m a1 a2⟩,jO m a1 a2⟩) h'
    exact ⟨⟨A3 hg,hcol,fun a ha=>(k1 a ha).1,fun f hf=>(f1 f hf).1⟩,⟨fun h=>nE hfb' h,hcol,fun a ha=>(k1 a ha).2,fun f hf=>(f1 f hf).2⟩⟩
theorem iN {x:ag} (h:eH x=0):vdE 47 x∧vdR 47 x:=rm rgB 47 x 0 (lkE 48 x 0).1 (Prod.ext rfl h)
end Go.Proofs.YtiefeajappjnbaaGreatDoor
