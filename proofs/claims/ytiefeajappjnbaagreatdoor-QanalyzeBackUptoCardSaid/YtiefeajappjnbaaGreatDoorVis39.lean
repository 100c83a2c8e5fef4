/- The program's walker: module.walker.visit, where calls are resolved. -/
import Derived.Test.YtiefeajappjnbaaGreatDoorGA
import Derived.Test.YtiefeajappjnbaaGreatDoorBod39
namespace Go.Proofs.YtiefeajappjnbaaGreatDoor
open Go.RowKit
theorem xl:∃ z:Array Value,z.size=19∧(Tryz.prog.info? 72).map (fun i=>(i.zero,i.size,i.bytes))=some (some (.agg z),19,280):=⟨gl.toArray,rfl,by kernel_rfl⟩
theorem nu:bt.toArray.all (·.oneCell')=true:=by kernel_rfl
theorem kj:(Tryz.prog.info? 34).map (·.size)=some bt.toArray.size:=by kernel_rfl
theorem dY.fns {d:ScD} {l:List al} (h:dY d) (hn:∀ f∈l,iq f.name=false):dY (d.fns l):=fun g hg=>by
 rcases List.mem_append.1 hg with hg | hg
 ·exact h g hg
 ·obtain ⟨f,hf,rfl⟩:=List.mem_map.1 hg
  exact ⟨hn f hf,Int.natCast_nonneg _⟩
theorem dY.par {d:ScD} {l:List aZ} (h:dY d) (hn:∀ p∈l,iq p.name=false):dY (d.par l):=fun g hg=>by
 rcases List.mem_append.1 hg with hg | hg
 ·exact h g hg
 ·obtain ⟨p,hp,rfl⟩:=List.mem_map.1 hg
  exact ⟨hn p (List.mem_filter.1 hp).1,Int.le_refl _⟩
theorem dY.inn {d:ScD} {op:Int} {nm:ByteArray} {i:Nat} (h:dY d):dY (d.inn op nm i):=h
theorem lH {R:ByteArray→Int} {V:ag→ScD→Int} {x:ag} {d:ScD} {z:Int} (h:fo R x d=z) (hz:z≠0):fh R V x d=z:=by unfold fh;rw [h,if_pos hz]
theorem pg {R:ByteArray→Int} {V:ag→ScD→Int} {x:ag} {d:ScD} (h:fo R x d=0):fh R V x d=if fg V x.funcs (d.fns x.funcs) 0≠0 then fg V x.funcs (d.fns x.funcs) 0 else fN V x (d.fns x.funcs) 0:=by unfold fh;rw [h,if_neg (by decide)]
set_option maxRecDepth 100000 in
set_option maxHeartbeats 6400000 in
theorem oX (ab pb:Nat) (l:List al) (BE NE:Nat) (V:ag→ScD→Int) (K:Nat) (x:ag) (hq:qdE x) (hnm:∀ f∈x.funcs,iq f.name=false∧∀ p∈f.params,iq p.name=false)
 (hA:∀ k (h:k<x.args.length),VsX ab pb l BE NE x.args[k] (V x.args[k]) K) (hF:∀ k (h:k<x.funcs.length),VsX ab pb l BE NE x.funcs[k].body (V x.funcs[k].body) K) :
 VsX ab pb l BE NE x (fh (b5 l) V x) (K+2097152):=by
 intro w lo B B1 N C xs d cs hN hC hB hB1 hlo hE hgs hd hx
 have IA:=Hd hA
 have IF:=Hd hF
 have HEV0:=Hd hE
 have HD:=Hd hd
 have HX:=Hd hx
 have HGS:=Hd hgs
 have HGF:=Hd (hgs.fns (l:=x.funcs) (fun f hf=>(hnm f hf).1))
 have HGP:=Hd (show ∀ k (h:k<x.funcs.length),dY ((d.fns x.funcs).par x.funcs[k].params) from fun k h=>HGF.out.par (hnm _ (List.getElem_mem h)).2)
 have hsz:=Hd (show (Tryz.prog.info? 147).map (·.size)=some cs.length by rw [hd.len];kernel_rfl)
 have hsx:=Hd (show (Tryz.prog.info? 34).map (·.size)=some xs.length by rw [hx.len];exact ay)
 have hsw:=Hd (show (Tryz.prog.info? 140).map (·.size)=some (cb ab pb).length by kernel_rfl)
 obtain ⟨aa,fa,ac,fc,vs,hh⟩:=hx.has
 have c0:=hh.op
 have c1:=hh.name
 have c15:=hh.args
 have c16:=hh.funcs
 have hal:x.args.length≤N:=hh.own.2.2.1
 have hfl:x.funcs.length≤N:=hh.own.2.2.2
 have HAr:=Hd hh.atArgs
 have HU:=Hd hh.atFuncs
 have HV:=Hd hh.atVal
 have HVS:=Hd hh.val
 have hvz:=Hd (show (Tryz.prog.info? 30).map (·.size)=some vs.length by rw [hh.atVal.len];exact bM)
 have I0:=Hd (dK.start (cb ab pb) 140 147 34 34 w xs cs bt)
 have HFIT:=Hd (show ik 1 x.val from ⟨by rw [hq.2.2.1];simp,by rw [hq.2.2.2];simp⟩)
 have HQ19:=Hd hq.1
 have HLOW:=Hd hlo
 have HB1W:=Hd hB1
 have HKD:=Hd (show ∀ u,Below w.heap.size w u→ScD.At u lo u.heap.size C d cs from fun u h=>(HD.out.keep (a7.of_below (h.mono hB))).mono (Nat.le_trans hB h.size) (Nat.le_refl _))
 have HKX:=Hd (show ∀ u,Below w.heap.size w u→ag.At u B1 N x xs from fun u h=>ag.At.below (h.mono hB1) _ HX.out)
 have HKV:=Hd (show ∀ u,Below w.heap.size w u→ar.At u B1 N x.val vs from fun u h=>ar.At.below (h.mono hB1) _ HV.out)
 obtain ⟨z,hz⟩:∃ z,fh (b5 l) V x d=z:=⟨_,rfl⟩
 rw [hz]
 have HZ:=Hd hz
 clear hh hx hA hF hd hq hz hE hgs hnm
 go_enter Tryz.func95,Tryz.ntmps95
 go_wp2_with (first
  | (refine wpList_load_mid rfl 147 _ rfl (w.heap.size+1+1) 0 rfl cs _ I0.out.range Tryz.underlying147 rfl hsz.out ?_)
  | (refine wpList_load_mid rfl 34 _ rfl (w.heap.size+1) 0 rfl xs _ I0.out.r2.range Tryz.underlying34 rfl hsx.out ?_)
  | (refine wpList_load_mid rfl 140 _ rfl (w.heap.size) 0 rfl (cb ab pb) _ I0.out.r1.range Tryz.underlying140 rfl hsw.out ?_))
 obtain ⟨z0,hz0⟩:∃ z0,fo (b5 l) x d=z0:=⟨_,rfl⟩
 have HZ0N:=Hd hz0
 clear hz0
 refine (Bx ab pb l BE NE x xs d cs _ lo _ B1 C N (by omega) (by omega) (Nat.le_refl _) (Nat.le_trans HB1W.out I0.out.low.size) (HEV0.out.then I0.out.low) HGS.out (HKD.out _ I0.out.low) (HKX.out _ I0.out.low)).mono ?_
 rw [HZ0N.out]
 rintro e u1 ⟨nm,rfl,hnm,hf1⟩
 have HNM:=Hd hnm
 have I1:=Hd (I0.out.below hf1)
 clear hf1 I0 hnm
 by_cases hz0:z0=0
 case neg =>
  have HR:=Hd (show z=z0 by rw [← HZ.out];exact lH HZ0N.out hz0)
  have hz1:(z0 != 0)=true:=by simpa using hz0
  have hz2:(z0==0)=false:=by simpa using hz0
  clear hz0
  go_wp2_with (refine wpList_store_row rfl 34 _ _ rfl (w.heap.size+1+1+1) bt.toArray rfl rfl 34 _ I1.out.out kj rfl nu ?_)
  have Z7:=setRow_heap u1 (w.heap.size+3) _ bt.toArray _ _ I1.out.out
  refine bodyPost_ret (ap rfl _ _ (w.heap.size+1+1+1) 34 _ (0,0) _ rfl Z7 Tryz.underlying34 rfl kj) rfl ?_
  exact ⟨bt,by rw [HR.out];rfl,rfl,nu,I1.out.low.trans (aM _ _ (by omega))⟩
 subst hz0
 obtain rfl:=HNM.out rfl
 have HZ1:=Hd (show z=if fg V x.funcs (d.fns x.funcs) 0≠0 then fg V x.funcs (d.fns x.funcs) 0 else fN V x (d.fns x.funcs) 0 by rw [← HZ.out];exact pg HZ0N.out)
 clear HZ0N HNM
 go_wp2_with fail
 refine wp_region_held_drew (S:=fun u=>dK (cb ab pb) 147 w u xs cs bt 34) (by kernel_rfl) (I1.out.below (cG u1)) (fun hHeld=>?_)
 refine' tk 0 (.pointer (some ⟨w.heap.size+1,0,none⟩)) rfl rfl (.inl ⟨by rfl,fun u hu=>(by go_simp)⟩) hHeld ?_
 simp only [sq1,sq0]
 refine' tk 1 (.int .i64 x.op) rfl rfl (.inl ⟨by rfl,fun u hu=>(by have hc:=hu.r2.get0 c0;go_simp)⟩) hHeld ?_
 simp only [sq1,sq0]
 refine' tk 2 (.string x.name) rfl rfl (.inl ⟨by rfl,fun u hu=>(by go_simp)⟩) hHeld ?_
 simp only [sq1,sq0]
 refine' tk 3 (.pointer (some ⟨w.heap.size+1,2,none⟩)) rfl rfl (.inl ⟨by rfl,fun u hu=>(by go_simp)⟩) hHeld ?_
 simp only [sq1,sq0]
 refine' tk 4 _ rfl rfl (yieldsIf_load_mid (by kernel_rfl) 30 _ rfl (w.heap.size+1) 2 rfl vs _ (fun u hu=>hu.r2.part HVS.out) Tryz.underlying30 rfl hvz.out) hHeld ?_
 simp only [sq1,sq0]
 refine wpAnyH_ready (rs:=[5,7]) (by kernel_rfl) (by simp) ?_
 refine AllReadyH.cons rfl (fun K hK=>?_) (AllReadyH.cons rfl (fun K hK=>?_) AllReadyH.nil)
 case' refine_1 =>
  go_simp
  refine (tw 1 x.val _ B1 N vs (by omega) HFIT.out (by omega) (Nat.le_trans HB1W.out hHeld.low.size) (HKV.out _ hHeld.low)).mono ?_
  rintro e u2 ⟨cs2,rfl,hsafe,hb2⟩
  obtain ⟨ya2,la2,va2,yc2,lc2,vc2,rfl,-⟩:=hsafe.here.row
  refine hK.out _ _ (hHeld.below hb2) (fun hHeld1=>?_)
  clear hK K hHeld hb2 hsafe
  refine' tk 6 (.agg (jN x ya2 la2 va2 yc2 lc2 vc2).toArray) rfl rfl (.inl ⟨by rfl,fun u hu=>(by simp only [ar.row];go_simp;try rfl)⟩) hHeld1 ?_
  simp only [sq1,sq0]
  refine rd1 7 rfl (fun K hK=>?_)
  go_simp
  refine hK.out _ _ (hHeld1.below (af u2 _)) (fun hHeld2=>?_)
  clear hK K
  have hz:=heap_alloc_new u2 (.cells zE0 34)
  refine rd1 8 rfl (fun K hK=>?_)
  rw [if_pos (by kernel_rfl)]
  refine wp_store_row 34 _ _ rfl u2.heap.size (jN x ya2 la2 va2 yc2 lc2 vc2).toArray rfl rfl 34 _ hz (nw ..) rfl (kr ..) ?_
  simp only [List.getElem_toArray,List.getElem_cons_succ,List.getElem_cons_zero,Act.put]
  have I4:=Hd (hHeld2.step (aM _ (jN x ya2 la2 va2 yc2 lc2 vc2).toArray (q:=u2.heap.size) (by have:=hHeld1.size;omega)))
  have T4:=Hd (fE.start x ya2 la2 va2 yc2 lc2 vc2 (setRow_heap _ _ _ (jN x ya2 la2 va2 yc2 lc2 vc2).toArray _ _ hz))
  have hq4:w.heap.size+4≤u2.heap.size:=hHeld1.size
  refine hK.out _ _ I4.out (fun hHeld3=>?_)
  obtain ⟨q,hq⟩:∃ q,q=u2.heap.size:=⟨_,rfl⟩
  rw [← hq] at I4 T4 hq4 ⊢
  obtain ⟨u4,hu4⟩:∃ u4,u4=World.setRow (u2.alloc (.cells zE0 34)) q (jN x ya2 la2 va2 yc2 lc2 vc2).toArray:=⟨_,rfl⟩
  rw [← hu4] at I4 T4 ⊢
  clear hK K hHeld1 hHeld2 hHeld3 hz hq hu4
  refine wpAnyH_done (by kernel_rfl) ?_ _
 case' refine_2 =>
  go_simp
  have D1:=Hd (show Below u1.heap.size u1.drew (u1.alloc (.cells zE0 34)).drew from af u1.drew (.cells zE0 34))
  have hz0:=Hd (show (u1.alloc (.cells zE0 34)).drew.heap[u1.heap.size]?=some (.cells zE0 34 (0,0)) from heap_alloc_new u1 (.cells zE0 34))
  have hq4:w.heap.size+4≤u1.heap.size:=hHeld.size
  refine hK.out _ _ (hHeld.below D1.out) (fun hHeld2=>?_)
  have hlt0:u1.heap.size<(u1.alloc (.cells zE0 34)).drew.heap.size:=(Array.getElem?_eq_some_iff.1 hz0.out).1
  clear hK K hHeld
  refine rd1 5 rfl (fun K hK=>?_)
  go_simp
  refine (tw 1 x.val _ B1 N vs (by omega) HFIT.out (by omega) (Nat.le_trans HB1W.out hHeld2.low.size) (HKV.out _ hHeld2.low)).mono ?_
  rintro e u2 ⟨cs2,rfl,hsafe,hb2⟩
  obtain ⟨ya2,la2,va2,yc2,lc2,vc2,rfl,-⟩:=hsafe.here.row
  have hz:=(hb2.block _ hlt0).trans hz0.out
  refine hK.out _ _ (hHeld2.below hb2) (fun hHeld1=>?_)
  clear hK K hHeld2 hb2 hsafe hlt0 D1 hz0
  refine' tk 6 (.agg (jN x ya2 la2 va2 yc2 lc2 vc2).toArray) rfl rfl (.inl ⟨by rfl,fun u hu=>(by simp only [ar.row];go_simp;try rfl)⟩) hHeld1 ?_
  simp only [sq1,sq0]
  refine rd1 8 rfl (fun K hK=>?_)
  rw [if_pos (by kernel_rfl)]
  refine wp_store_row 34 _ _ rfl u1.heap.size (jN x ya2 la2 va2 yc2 lc2 vc2).toArray rfl rfl 34 _ hz (nw ..) rfl (kr ..) ?_
  simp only [List.getElem_toArray,List.getElem_cons_succ,List.getElem_cons_zero,Act.put]
  have I4:=Hd (hHeld1.step (aM _ (jN x ya2 la2 va2 yc2 lc2 vc2).toArray (q:=u1.heap.size) hq4))
  have T4:=Hd (fE.start x ya2 la2 va2 yc2 lc2 vc2 (setRow_heap _ _ _ (jN x ya2 la2 va2 yc2 lc2 vc2).toArray _ _ hz))
  refine hK.out _ _ I4.out (fun hHeld3=>?_)
  obtain ⟨q,hq⟩:∃ q,q=u1.heap.size:=⟨_,rfl⟩
  rw [← hq] at I4 T4 hq4 ⊢
  obtain ⟨u4,hu4⟩:∃ u4,u4=World.setRow u2 q (jN x ya2 la2 va2 yc2 lc2 vc2).toArray:=⟨_,rfl⟩
  rw [← hu4] at I4 T4 ⊢
  clear hK K hHeld1 hHeld3 hz hq hu4
  refine wpAnyH_done (by kernel_rfl) ?_ _
 all_goals
  have d16:=I4.out.r2.get0 c16
  go_wp2_with fail
  go_simp
  go_loopw [42] (fun i wr=>∃ k:Nat,k≤x.funcs.length∧i=.int .i64 k∧Hid (∃ cs' gs',gs'=d.gs++gsF (x.funcs.take k)∧dK (cb ab pb) 147 w wr xs cs' bt 34∧ScD.At wr lo wr.heap.size (C+k) ⟨d.vs,d.ls,gs'⟩ cs')∧Hid (fE wr q)) (fun i _=>x.funcs.length-(intOf i).toNat)
  case atStart=>exact ⟨0,by omega,rfl,Hd ⟨cs,d.gs,by simp [gsF],I4.out,HKD.out _ I4.out.low⟩,T4⟩
  case round =>
   obtain ⟨w1,rfl⟩:∃ w1,w1=wr:=⟨wr,rfl⟩
   clear I4 T4 d16
   obtain ⟨k,hk,rfl,HI,T1⟩:=hrel
   obtain ⟨cs1,gs1,hgs1,i1,d1⟩:=HI.out
   have HGS1:=Hd hgs1
   have I1:=Hd i1
   have d16:=I1.out.r2.get0 c16
   clear HI i1 hgs1
   by_cases hlt:k<x.funcs.length
   case pos =>
    obtain ⟨va,la,ga,vc,lc,gc,rfl,hv,hls,hg,k1,k2,k3⟩:=d1
    have HNV:=Hd hv
    have HNL:=Hd hls
    have HNG:=Hd hg
    have K1:=Hd k1
    have K2:=Hd k2
    have K3:=Hd k3
    clear hv hls hg k1 k2 k3
    obtain ⟨b,p,rfl,hb,hget⟩:=HU.out.get (by intro h;simp [h] at hlt)
    obtain ⟨fs,g1,g2⟩:=hget k hlt
    obtain ⟨pa,pc,es,gh⟩:=g2.has
    have HFR:=Hd (show ∀ u,Below w.heap.size w u→aj u b (p+k * 19) fs from fun u hu=>g1.below (hu.mono HB1W.out) hb)
    have f0:=(aA w1 fs 72).get0 gh.name
    have f1:=(aA w1 fs 72).get0 gh.params
    have hpl:x.funcs[k].params.length≤N:=gh.hp
    have hlf:=Hd (show (Tryz.prog.info? 72).map (·.size)=some fs.length by rw [gh.len];exact cj)
    have hlf2:=Hd (show (Tryz.prog.info? 72).map (·.size)=some fs.toArray.size by rw [List.size_toArray,gh.len];exact cj)
    have h19:=Hd (show 19=fs.toArray.size by rw [List.size_toArray,gh.len])
    have hone:=Hd (show fs.toArray.all (·.oneCell')=true from Go.all_oneCell_toArray gh.one)
    have I2:=Hd (I1.out.below (af w1 (.cells fs.toArray 72)))
    have e2:=I2.out.scp (j:=2) (v:=.slice ga gs1.length gc) rfl
    have HB2:=Hd (af w1 (.cells fs.toArray 72))
    clear g1 g2 gh hget
    go_wp2_with (first
     | (refine wpList_load_mid rfl 72 _ rfl b (p+k * 19) rfl fs _ (HFR.out _ I1.out.low).range Tryz.underlying72 rfl hlf.out ?_)
     | (refine ak rfl 72 _ _ rfl _ fs.toArray rfl rfl hlf2.out h19.out hone.out ?_))
    refine (vF gs1 x.funcs[k].name x.funcs[k].params.length ga gc _ lo lo w1.heap.size (by have:=K3.out;omega) (Nat.le_trans HLOW.out (Nat.le_trans I1.out.low.size HB2.out.size)) HB2.out.size (HNG.out.keep (a7.of_below HB2.out))).mono ?_
    rintro e w3 ⟨a1,c1',rfl,_,_,hn1,hb1⟩
    have N1:=Hd hn1
    have I3:=Hd (I2.out.below hb1)
    have HB3:=Hd (ae HB2.out hb1)
    obtain ⟨m1,hm1⟩:∃ m,(gs1++[(x.funcs[k].name,(x.funcs[k].params.length:Int))]).length=m:=⟨_,rfl⟩
    have HM1:=Hd hm1
    rw [hm1]
    clear hn1 hb1 hm1 f0 f1 e2 d16
    have z1:=I3.out.scp (j:=2) (v:=.slice ga gs1.length gc) rfl
    have fz1:=I3.out.frozen 2
    go_wp2_with fail
    have hz:=I3.out.scp (j:=0) (v:=.slice va d.vs.length vc) rfl
    have hkp:a7 lo w1.heap.size w1 w3:=a7.of_below HB3.out
    have hs3:=HB3.out.size
    have D4:=Hd (show ∃ cs' gs',gs'=d.gs++gsF (x.funcs.take (k+1))∧dK (cb ab pb) 147 w (w3.setCell ⟨w.heap.size+1+1,2,none⟩ (.slice a1 m1 c1')) xs cs' bt 34∧ScD.At (w3.setCell ⟨w.heap.size+1+1,2,none⟩ (.slice a1 m1 c1')) lo (w3.setCell ⟨w.heap.size+1+1,2,none⟩ (.slice a1 m1 c1')).heap.size (C+(k+1)) ⟨d.vs,d.ls,gs'⟩ cs' from
     ⟨_,gs1++[(x.funcs[k].name,(x.funcs[k].params.length:Int))],by rw [p6 x.funcs hlt,HGS1.out,List.append_assoc],I3.out.setCell 2 (.slice a1 m1 c1'),va,la,a1,vc,lc,c1',by rw [HM1.out];rfl,(((HNV.out.keep hkp).mono hs3).setCell hz 2 _).mono (by simp),(((HNL.out.keep hkp).mono hs3).setCell hz 2 _).mono (by simp),(N1.out.setCell hz 2 _).mono (by simp),by have:=K1.out;show d.vs.length≤_;omega,by have:=K2.out;show d.ls.length≤_;omega,by have:=K3.out;rw [List.length_append];show gs1.length+1≤_;omega⟩)
    have T4:=Hd ((T1.out.below HB3.out).setCell (g:=w.heap.size+1+1) (j:=2) (v:=.slice a1 m1 c1') (by omega))
    go_roundw
    case rel=>exact ⟨k+1,by omega,by go_num,D4,T4⟩
    case measure=>simp [intOf];omega
   case neg =>
    obtain rfl:k=x.funcs.length:=by omega
    have D1:=Hd (show ScD.At w1 lo w1.heap.size (C+N) (d.fns x.funcs) cs1 by
     have h:=d1.mono (Nat.le_refl _) (show C+x.funcs.length≤C+N by omega)
     have e:=HGS1.out
     rw [List.take_length] at e
     rw [e] at h
     exact h)
    have hsz1:=Hd (show (Tryz.prog.info? 147).map (·.size)=some cs1.length by rw [d1.len];kernel_rfl)
    obtain ⟨z0f,hz0fs,hinfof⟩:=xl
    obtain ⟨i0f,hif,hz0f,hz1f,hz2f⟩:=info_parts hinfof
    have HIF:=Hd hif
    have HZ0F:=Hd hz0f
    have HZ1F:=Hd hz1f
    have HZ2F:=Hd hz2f
    have HZSF:=Hd hz0fs
    obtain ⟨HB,hHB⟩:∃ HB,HB=w1.heap.size:=⟨_,rfl⟩
    have L1:=Hd (show eO (cb ab pb) 147 w w1 xs cs1 lo HB (C+N) (d.fns x.funcs) q 16 72 19 0 from
     ⟨I1.out,by rw [hHB];exact D1.out,T1.out.next (by rw [hHB];exact T1.out.lt) (by rw [hHB];exact Nat.le_refl _)⟩)
    clear d1 hif hz0f hz1f hz2f hz0fs hinfof hHB D1 T1 HGS1 gs1
    go_wp2_with fail
    go_simp
    go_loopw [60] (fun i wr=>∃ k:Nat,k≤x.funcs.length∧i=.int .i64 k∧Hid (eO (cb ab pb) 147 w wr xs cs1 lo HB (C+N) (d.fns x.funcs) q 16 72 19 k)∧Hid (z=if fg V x.funcs (d.fns x.funcs) k≠0 then fg V x.funcs (d.fns x.funcs) k else fN V x (d.fns x.funcs) 0)) (fun i _=>x.funcs.length-(intOf i).toNat)
    case atStart=>exact ⟨0,by omega,rfl,L1,HZ1⟩
    case round =>
     obtain ⟨w1,rfl⟩:∃ w1,w1=wr:=⟨wr,rfl⟩
     clear I1 L1 d16 HZ1
     obtain ⟨k,hk,rfl,L1,HZ1⟩:=hrel
     have d16:=L1.out.vis.r2.get0 c16
     by_cases hlt:k<x.funcs.length
     case pos =>
      obtain ⟨b,p,rfl,hb,hget⟩:=HU.out.get (by intro h;simp [h] at hlt)
      obtain ⟨fs,g1,g2⟩:=hget k hlt
      have HFR:=Hd (show ∀ u,Below w.heap.size w u→aj u b (p+k * 19) fs from fun u hu=>g1.below (hu.mono HB1W.out) hb)
      have G2:=Hd (show ∀ u,Below w.heap.size w u→al.At u B1 N x.funcs[k] fs from fun u hu=>al.At.below (hu.mono HB1W.out) _ g2)
      have hlf:=Hd (show (Tryz.prog.info? 72).map (·.size)=some fs.length by rw [g2.len];exact cj)
      have hlf2:=Hd (show (Tryz.prog.info? 72).map (·.size)=some fs.toArray.size by rw [List.size_toArray,g2.len];exact cj)
      have h19:=Hd (show 19=fs.toArray.size by rw [List.size_toArray,g2.len])
      have hone:=Hd (show fs.toArray.all (·.oneCell')=true by obtain ⟨_,_,_,gh⟩:=g2.has;exact Go.all_oneCell_toArray gh.one)
      have L2:=Hd (L1.out.below (af w1 (.cells fs.toArray 72)))
      have HBX:=Hd (aA w1 fs 72)
      obtain ⟨ev,hev⟩:∃ ev,V x.funcs[k].body ((d.fns x.funcs).par x.funcs[k].params)=ev:=⟨_,rfl⟩
      have HEV:=Hd hev
      clear g1 g2 hget hev
      go_wp2_with (first
       | (refine wpList_load_mid rfl 72 _ rfl b (p+k * 19) rfl fs _ (HFR.out _ L1.out.vis.low).range Tryz.underlying72 rfl hlf.out ?_)
       | (refine wpList_load_mid rfl 72 _ rfl w1.heap.size 0 rfl fs _ HBX.out.range Tryz.underlying72 rfl hlf.out ?_)
       | (refine wpList_load_mid rfl 140 _ rfl (w.heap.size) 0 rfl (cb ab pb) _ L2.out.vis.r1.range Tryz.underlying140 rfl hsw.out ?_)
       | (refine wpList_load_mid rfl 147 _ rfl (w.heap.size+1+1) 0 rfl cs1 _ L2.out.vis.range Tryz.underlying147 rfl hsz1.out ?_)
       | (refine ak rfl 72 _ _ rfl _ fs.toArray rfl rfl hlf2.out h19.out hone.out ?_))
      refine (A7 ab pb l BE NE (V x.funcs[k].body) K x.funcs[k] (IF.out k hlt) _ lo _ B1 N (C+N) fs (d.fns x.funcs) cs1 hN (by omega) (Nat.le_refl _) (Nat.le_trans HB1W.out L2.out.vis.low.size) (Nat.le_trans HLOW.out L2.out.vis.low.size) (HEV0.out.then L2.out.vis.low) (HGP.out k hlt) (L2.out.sc.mono L2.out.ret.size (Nat.le_refl _)) (G2.out _ L2.out.vis.low)).mono ?_
      rw [HEV.out]
      rintro e u3 ⟨rs5,rfl,hl5,ho5,hb5⟩
      have L3:=Hd (L2.out.below hb5)
      have L4:=Hd (L3.out.below (af u3 (.cells rs5.toArray 72)))
      have hl52:=Hd (show (Tryz.prog.info? 72).map (·.size)=some rs5.toArray.size by rw [List.size_toArray,hl5];exact cj)
      have hl53:=Hd (show (Tryz.prog.info? 72).map (·.size)=some rs5.length by rw [hl5];exact cj)
      have hl54:=Hd (show 19=rs5.toArray.size by rw [List.size_toArray,hl5])
      have HO5:=Hd ho5
      have HBY:=Hd (aA u3 rs5 72)
      have HVF:=Hd (mV V (d.fns x.funcs) hlt)
      by_cases hev0:ev=0
      case neg =>
       have HR:=Hd (show z=ev by
        have h1:=HZ1.out
        rw [HVF.out,HEV.out,if_pos hev0,if_pos hev0] at h1
        exact h1)
       have hev1:(ev != 0)=true:=by simpa using hev0
       have hev2:(ev==0)=false:=by simpa using hev0
       have I9:=Hd L4.out.vis
       clear hev0 hb5 ho5 hl5 d16
       go_wp2_with (first
        | (refine ak rfl 72 _ _ rfl _ rs5.toArray rfl rfl hl52.out hl54.out HO5.out ?_)
        | (refine wpList_store_row rfl 34 _ _ rfl (w.heap.size+1+1+1) bt.toArray rfl rfl 34 _ I9.out.out kj rfl nu ?_))
       have Z7:=setRow_heap (u3.alloc (.cells rs5.toArray 72)) (w.heap.size+3) _ bt.toArray _ _ I9.out.out
       refine bodyPost_ret (ap rfl _ _ (w.heap.size+1+1+1) 34 _ (0,0) _ rfl Z7 Tryz.underlying34 rfl kj) rfl ?_
       exact ⟨bt,by rw [HR.out];rfl,rfl,nu,I9.out.low.trans (aM _ _ (by omega))⟩
      subst hev0
      have HZ2:=Hd (show z=if fg V x.funcs (d.fns x.funcs) (k+1)≠0 then fg V x.funcs (d.fns x.funcs) (k+1) else fN V x (d.fns x.funcs) 0 by
       have h1:=HZ1.out
       have hv0:=HVF.out
       rw [HEV.out,if_neg (by decide)] at hv0
       rw [hv0] at h1
       exact h1)
      obtain ⟨rs,i,v,xr,t1,t2,t3,t4,t5,t6,t7⟩:=L4.out.ret.has
      have HX1:=Hd t1
      have HX2:=Hd t2
      have HX3:=Hd t3
      have HX4:=Hd t4
      have HX5:=Hd (t5 rfl)
      have HX6:=Hd t6
      have HX7:=Hd t7
      have HA3:=Hd (show ∀ u∈rs5,u.oneCell'=true from fun u hu=>List.all_eq_true.1 (by simpa using ho5) u hu)
      have HA4:=Hd (show k+1≤maxLen by unfold maxLen;omega)
      have HA5:=Hd (show (k+1) * 280≤140737488355328 by omega)
      have HA6:=Hd (show HB≤((u3.alloc (.cells rs5.toArray 72)).alloc (.cells rs5.toArray 72)).heap.size from Nat.le_trans L4.out.ret.size (by rw [World.size_alloc (u3.alloc (.cells rs5.toArray 72))];exact Nat.le_succ _))
      have z16:(u3.alloc (.cells rs5.toArray 72)).cell? ⟨q,16,none⟩=some v:=by
       have:=cf t1 16 v t6
       rwa [Nat.zero_add] at this
      have HSR:=Hd (show kb ((u3.alloc (.cells rs5.toArray 72)).alloc (.cells rs5.toArray 72)) (some ⟨u3.heap.size+1,0,none⟩) 1 rs5 by have:=dh (u3.alloc (.cells rs5.toArray 72)) rs5 72 1;rwa [World.size_alloc] at this)
      have hfz:=dk rs5 #[.string ⟨#[]⟩,.slice none 0 0,.int .i64 0,.string ⟨#[]⟩,.int .i64 0,.bool false,.bool false,.string ⟨#[]⟩,.int .i64 0,.int .i64 0,.int .i64 0,.int .i64 0,.int .i64 0,.string ⟨#[]⟩,.slice none 0 0,.slice none 0 0,.slice none 0 0,.slice none 0 0,.slice none 0 0] (by rw [hl5];rfl)
      have HL5:=Hd (show rs5.length=1 * 19 from hl5)
      clear hb5 ho5 t1 t2 t3 t4 t5 t6 t7 d16
      go_wp2_with (first
       | (at_builtin;refine aU rfl _ _ 32 rfl HB 72 i0f (.agg z0f) 19 280 Tryz.underlying32 HIF.out HZ0F.out HZ1F.out HZ2F.out HZSF.out (by decide) v k xr rfl (HX7.out.alloc _) (some ⟨u3.heap.size+1,0,none⟩) 1 1 rs5 rfl HL5.out HSR.out HA3.out HA4.out HA5.out HA6.out ?_)
       | (refine wpList_load_mid rfl 72 _ rfl u3.heap.size 0 rfl rs5 _ HBY.out.range Tryz.underlying72 rfl hl53.out ?_)
       | (refine ak rfl 72 _ _ rfl _ rs5.toArray rfl rfl hl52.out hl54.out HO5.out ?_))
      intro v6 u6 hown6 hg6
      obtain ⟨a6,c6,rfl⟩:=dD hown6
      obtain ⟨l6,f6,g6⟩:=L4.out.grow hq4 (by omega) (by omega) HX1.out HX2.out HX3.out HX4.out (fun _=>HX5.out) HX6.out HX7.out hown6 hg6
      have L6:=Hd l6
      clear hown6 hg6 l6 z16 hfz hl5
      go_wp2_with fail
      go_roundw
      case rel=>exact ⟨k+1,by omega,by go_num,L6,HZ2⟩
      case measure=>simp [intOf];omega
     case neg =>
      obtain rfl:k=x.funcs.length:=by omega
      obtain ⟨z0,hz0s,hinfo⟩:=xm
      obtain ⟨i0,hi,hz0,hz1,hz2⟩:=info_parts hinfo
      have HI0:=Hd hi
      have HZ0:=Hd hz0
      have HZ1E:=Hd hz1
      have HZ2:=Hd hz2
      have HZS:=Hd hz0s
      have L7:=Hd (show eO (cb ab pb) 147 w w1 xs cs1 lo HB (C+N) (d.fns x.funcs) q 15 34 17 0 from
       ⟨L1.out.vis,L1.out.sc,L1.out.ret.next⟩)
      have HZ7:=Hd (show z=fN V x (d.fns x.funcs) 0 by
       have h1:=HZ1.out
       rw [oY,if_neg (by decide)] at h1
       exact h1)
      have d15:=L1.out.vis.r2.get0 c15
      clear hi hz0 hz1 hz2 hz0s hinfo L1 d16 HIF HZ0F HZ1F HZ2F HZSF HU IF HZ1
      go_wp2_with fail
      go_simp
      go_loopw [85] (fun i wr=>∃ k:Nat,k≤x.args.length∧i=.int .i64 k∧Hid (eO (cb ab pb) 147 w wr xs cs1 lo HB (C+N) (d.fns x.funcs) q 15 34 17 k)∧Hid (z=fN V x (d.fns x.funcs) k)) (fun i _=>x.args.length-(intOf i).toNat)
      case atStart=>exact ⟨0,by omega,rfl,L7,HZ7⟩
      case round =>
       obtain ⟨wR,rfl⟩:∃ w',w'=wr:=⟨wr,rfl⟩
       clear L7 d15 HZ7
       obtain ⟨k,hk,rfl,LR,HZ7⟩:=hrel
       have d15:=LR.out.vis.r2.get0 c15
       by_cases hlt:k<x.args.length
       case pos =>
        obtain ⟨b,p,rfl,hb,hget⟩:=HAr.out.get (by intro h;simp [h] at hlt)
        obtain ⟨es,g1,g2⟩:=hget k hlt
        have HER:=Hd (show ∀ u,Below w.heap.size w u→aj u b (p+k * 17) es from fun u hu=>g1.below (hu.mono HB1W.out) hb)
        have hle:=Hd (show (Tryz.prog.info? 34).map (·.size)=some es.length by rw [g2.len];exact ay)
        have hle2:=Hd (show (Tryz.prog.info? 34).map (·.size)=some es.toArray.size by rw [List.size_toArray,g2.len];exact ay)
        have h17:=Hd (show 17=es.toArray.size by rw [List.size_toArray,g2.len])
        have hone:=Hd (show es.toArray.all (·.oneCell')=true from Go.all_oneCell_toArray g2.one)
        have H19:=Hd (show x.op=19→k≤2 from fun h=>by have:=HQ19.out h;omega)
        have HG4:=Hd g2
        obtain ⟨ev,hev⟩:∃ ev,V x.args[k] ((d.fns x.funcs).inn x.op x.name k)=ev:=⟨_,rfl⟩
        have HEV:=Hd hev
        have HG2:=Hd (show dY ((d.fns x.funcs).inn x.op x.name k) from HGF.out.inn)
        clear g1 g2 hget hev
        go_wp2_with (first
         | (refine wpList_load_mid rfl 34 _ rfl b (p+k * 17) rfl es _ (HER.out _ LR.out.vis.low).range Tryz.underlying34 rfl hle.out ?_)
         | (refine ak rfl 34 _ _ rfl _ es.toArray rfl rfl hle2.out h17.out hone.out ?_))
        obtain ⟨w1,hw1⟩:∃ w1,w1=wR.alloc (.cells es.toArray 34):=⟨_,rfl⟩
        have L8:=Hd (show eO (cb ab pb) 147 w w1 xs cs1 lo HB (C+N) (d.fns x.funcs) q 15 34 17 k by rw [hw1];exact LR.out.below (af wR _))
        have H18:=Hd (show ∀ u,Below w1.heap.size w1 u→aj u wR.heap.size 0 es from fun u hu=>aj.below (by rw [hw1];exact aA wR es 34) hu (by rw [hw1,World.size_alloc];omega))
        rw [← hw1]
        clear hw1 LR d15
        have I1:=Hd L8.out.vis
        have HLW:=Hd I1.out.low.size
        have HRW:=Hd (show ∀ u,Below w1.heap.size w1 u→aj u w.heap.size 0 (cb ab pb) from fun u hu=>(I1.out.below hu).r1)
        have HRX:=Hd (show ∀ u,Below w1.heap.size w1 u→aj u (w.heap.size+1) 0 xs from fun u hu=>(I1.out.below hu).r2)
        have HRS:=Hd (show ∀ u,Below w1.heap.size w1 u→dK (cb ab pb) 147 w u xs cs1 bt 34 from fun u hu=>I1.out.below hu)
        have HB1:=Hd (Nat.le_trans HB1W.out HLW.out)
        have HLO:=Hd (Nat.le_trans HLOW.out HLW.out)
        have HUP:=Hd (show ∀ u,Below w1.heap.size w1 u→Below w.heap.size w u from fun u hu=>I1.out.low.trans (hu.mono HLW.out))
        have HKD1:=Hd (show ∀ u,Below w1.heap.size w1 u→ScD.At u lo u.heap.size (C+N) (d.fns x.funcs) cs1 from fun u hu=>(L8.out.sc.keep (a7.of_below (hu.mono L8.out.ret.size))).mono (Nat.le_trans L8.out.ret.size hu.size) (Nat.le_refl _))
        have HES:=Hd (show ∀ u,Below w1.heap.size w1 u→ag.At u B1 N x.args[k] es from fun u hu=>ag.At.below ((HUP.out u hu).mono HB1W.out) _ HG4.out)
        have HKXW:=Hd (show ∀ u,Below w1.heap.size w1 u→ag.At u B1 N x xs from fun u hu=>HKX.out u (HUP.out u hu))
        have HEN:=Hd (HEV0.out.then I1.out.low)
        have HB0:=Hd (cG w1)
        refine wp_region_held_drew (S:=fun u=>Below w1.heap.size w1 u) (by kernel_rfl) HB0.out (fun hHeld=>?_)
        refine' tk 0 _ rfl rfl (yieldsIf_load_mid (by kernel_rfl) 140 _ rfl (w.heap.size) (0) rfl (cb ab pb) _ (fun u hu=>(HRW.out _ hu).range) Tryz.underlying140 rfl hsw.out) hHeld ?_
        simp only [sq1,sq0]
        refine' tk 1 _ rfl rfl (yieldsIf_load_mid (by kernel_rfl) 34 _ rfl (wR.heap.size) (0) rfl es _ (fun u hu=>(H18.out _ hu).range) Tryz.underlying34 rfl hle.out) hHeld ?_
        simp only [sq1,sq0]
        refine' tk 2 _ rfl rfl (yieldsIf_load_mid (by kernel_rfl) 34 _ rfl (w.heap.size+1) (0) rfl xs _ (fun u hu=>(HRX.out _ hu).range) Tryz.underlying34 rfl hsx.out) hHeld ?_
        simp only [sq1,sq0]
        refine' tk 3 (.int .i64 k) rfl rfl (.inl ⟨by rfl,fun u hu=>(by go_simp)⟩) hHeld ?_
        simp only [sq1,sq0]
        refine' tk 4 _ rfl rfl (yieldsIf_load_mid (by kernel_rfl) 147 _ rfl (w.heap.size+2) (0) rfl cs1 _ (fun u hu=>(HRS.out _ hu).range) Tryz.underlying147 rfl hsz1.out) hHeld ?_
        simp only [sq1,sq0]
        refine wpAnyH_ready (rs:=[5,10]) (by kernel_rfl) (by simp) ?_
        refine AllReadyH.cons rfl (fun K hK=>?_) (AllReadyH.cons rfl (fun K hK=>?_) AllReadyH.nil)
        case' refine_1 =>
         go_simp
         refine (sX x xs k (d.fns x.funcs) cs1 _ lo _ (C+N) N (by omega) (by omega) H19.out (Nat.le_refl _) (Nat.le_trans HLO.out HB0.out.size) (HKD1.out _ HB0.out) (ag.At.mono (Nat.le_trans HB1.out HB0.out.size) _ (HKXW.out _ HB0.out))).mono ?_
         rintro e uC0 ⟨_,cs2,rfl,rfl,hs2,hbC⟩
         have S2:=Hd hs2
         have HbC0:=Hd hbC
         have HC0:=Hd (ae HB0.out hbC)
         refine hK.out _ _ HC0.out (fun hHeld=>?_)
         clear hK K hbC hs2
         refine wpAnyH_ready (rs:=[6,10]) (by kernel_rfl) (by simp) ?_
         refine AllReadyH.cons rfl (fun K hK=>?_) (AllReadyH.cons rfl (fun K hK=>?_) AllReadyH.nil)
        case' refine_1.refine_1 =>
         go_simp
         refine (IA.out k hlt _ lo _ B1 N _ es _ cs2 hN (by omega) (Nat.le_refl _) (Nat.le_trans HB1.out HC0.out.size) (Nat.le_trans HLO.out HC0.out.size) (HEN.out.then HC0.out) HG2.out S2.out (HES.out _ HC0.out)).mono ?_
         rw [HEV.out]
         rintro e uC1 ⟨rs5,rfl,hl5,ho5,hbC⟩
         have HO5:=Hd ho5
         have HbC1:=Hd hbC
         have HC1:=Hd (ae HC0.out hbC)
         refine hK.out _ _ HC1.out (fun hHeld=>?_)
         clear hK K hbC ho5
         refine' tk 7 (.tuple #[.agg rs5.toArray,.int .i64 ev]) rfl rfl (.inl ⟨by rfl,fun u hu=>(by go_simp)⟩) hHeld ?_
         simp only [sq1,sq0]
         refine' tk 8 (.agg rs5.toArray) rfl rfl (.inl ⟨by rfl,fun u hu=>(by go_simp)⟩) hHeld ?_
         simp only [sq1,sq0]
         refine' tk 9 (.int .i64 ev) rfl rfl (.inl ⟨by rfl,fun u hu=>(by go_simp)⟩) hHeld ?_
         simp only [sq1,sq0]
         refine rd1 10 rfl (fun K hK=>?_)
         go_simp
         obtain ⟨uA,huA⟩:∃ uA,uA=uC1.alloc (.cells zE0 34):=⟨_,rfl⟩
         rw [← huA]
         have HbA:=Hd (show Below uC1.heap.size uC1 uA by rw [huA];exact af uC1 _)
         have ZA:=Hd (show uA.heap[uC1.heap.size]?=some (.cells zE0 34 (0,0)) by rw [huA];exact heap_alloc_new uC1 _)
         have HA:=Hd (ae HC1.out HbA.out)
         obtain ⟨q5,hq5⟩:∃ q5,q5=uC1.heap.size:=⟨_,rfl⟩
         have hqb:w1.heap.size≤q5:=by rw [hq5];exact HC1.out.size
         rw [← hq5] at ZA ⊢
         refine hK.out _ _ HA.out (fun hHeld=>?_)
         clear hK K huA hq5
         refine rd1 11 rfl (fun K hK=>?_)
         rw [if_pos (by kernel_rfl)]
         refine wp_store_row 34 _ _ rfl q5 rs5.toArray rfl rfl 34 _ ZA.out (by rw [List.size_toArray,hl5];exact ay) (show 17=rs5.toArray.size by rw [List.size_toArray,hl5]) HO5.out ?_
         simp only [List.getElem_toArray,List.getElem_cons_succ,List.getElem_cons_zero,Act.put]
         have R5:=Hd (show Below w1.heap.size w1 (World.setRow uA q5 rs5.toArray) from HA.out.trans (aM _ _ hqb))
         have Z5:=Hd (setRow_heap _ q5 _ rs5.toArray _ _ ZA.out)
         obtain ⟨u5,hu5⟩:∃ u5,u5=World.setRow uA q5 rs5.toArray:=⟨_,rfl⟩
         rw [← hu5] at R5 Z5 ⊢
         refine hK.out _ _ R5.out (fun hHeld=>?_)
         clear hK K hu5
         refine rd1 12 rfl (fun K hK=>?_)
         go_simp
         refine hK.out _ _ R5.out (fun hHeldx=>?_)
         clear hK K hHeldx
         refine wpAnyH_done (by kernel_rfl) ?_ _
        case' refine_1.refine_2 =>
         go_simp
         obtain ⟨uA,huA⟩:∃ uA,uA=uC0.alloc (.cells zE0 34):=⟨_,rfl⟩
         rw [← huA]
         have HbA:=Hd (show Below uC0.heap.size uC0 uA by rw [huA];exact af uC0 _)
         have ZA:=Hd (show uA.heap[uC0.heap.size]?=some (.cells zE0 34 (0,0)) by rw [huA];exact heap_alloc_new uC0 _)
         have HA:=Hd (ae HC0.out HbA.out)
         obtain ⟨q5,hq5⟩:∃ q5,q5=uC0.heap.size:=⟨_,rfl⟩
         have hqb:w1.heap.size≤q5:=by rw [hq5];exact HC0.out.size
         rw [← hq5] at ZA ⊢
         have SA:=Hd ((S2.out.keep (a7.of_below HbA.out)).mono HbA.out.size (Nat.le_refl _))
         refine hK.out _ _ HA.out (fun hHeld=>?_)
         clear hK K huA hq5
         refine rd1 6 rfl (fun K hK=>?_)
         go_simp
         refine (IA.out k hlt _ lo _ B1 N _ es _ cs2 hN (by omega) (Nat.le_refl _) (Nat.le_trans HB1.out HA.out.size) (Nat.le_trans HLO.out HA.out.size) (HEN.out.then HA.out) HG2.out SA.out (HES.out _ HA.out)).mono ?_
         rw [HEV.out]
         rintro e uC1 ⟨rs5,rfl,hl5,ho5,hbC⟩
         have HO5:=Hd ho5
         have HbC1:=Hd hbC
         have HC1:=Hd (ae HA.out hbC)
         have ZC1:=Hd ((HbC1.out.block _ (Array.getElem?_eq_some_iff.1 ZA.out).1).trans ZA.out)
         refine hK.out _ _ HC1.out (fun hHeld=>?_)
         clear hK K hbC ho5
         refine' tk 7 (.tuple #[.agg rs5.toArray,.int .i64 ev]) rfl rfl (.inl ⟨by rfl,fun u hu=>(by go_simp)⟩) hHeld ?_
         simp only [sq1,sq0]
         refine' tk 8 (.agg rs5.toArray) rfl rfl (.inl ⟨by rfl,fun u hu=>(by go_simp)⟩) hHeld ?_
         simp only [sq1,sq0]
         refine' tk 9 (.int .i64 ev) rfl rfl (.inl ⟨by rfl,fun u hu=>(by go_simp)⟩) hHeld ?_
         simp only [sq1,sq0]
         refine rd1 11 rfl (fun K hK=>?_)
         rw [if_pos (by kernel_rfl)]
         refine wp_store_row 34 _ _ rfl q5 rs5.toArray rfl rfl 34 _ ZC1.out (by rw [List.size_toArray,hl5];exact ay) (show 17=rs5.toArray.size by rw [List.size_toArray,hl5]) HO5.out ?_
         simp only [List.getElem_toArray,List.getElem_cons_succ,List.getElem_cons_zero,Act.put]
         have R5:=Hd (show Below w1.heap.size w1 (World.setRow uC1 q5 rs5.toArray) from HC1.out.trans (aM _ _ hqb))
         have Z5:=Hd (setRow_heap _ q5 _ rs5.toArray _ _ ZC1.out)
         obtain ⟨u5,hu5⟩:∃ u5,u5=World.setRow uC1 q5 rs5.toArray:=⟨_,rfl⟩
         rw [← hu5] at R5 Z5 ⊢
         refine hK.out _ _ R5.out (fun hHeld=>?_)
         clear hK K hu5
         refine rd1 12 rfl (fun K hK=>?_)
         go_simp
         refine hK.out _ _ R5.out (fun hHeldx=>?_)
         clear hK K hHeldx
         refine wpAnyH_done (by kernel_rfl) ?_ _
        case' refine_2 =>
         go_simp
         obtain ⟨uA,huA⟩:∃ uA,uA=(w1.alloc (.cells zE0 34)).drew:=⟨_,rfl⟩
         rw [← huA]
         have HbA:=Hd (show Below w1.drew.heap.size w1.drew uA by rw [huA];exact af w1.drew _)
         have ZA:=Hd (show uA.heap[w1.heap.size]?=some (.cells zE0 34 (0,0)) by rw [huA];exact heap_alloc_new w1 _)
         have HA:=Hd (ae HB0.out HbA.out)
         obtain ⟨q5,hq5⟩:∃ q5,q5=w1.heap.size:=⟨_,rfl⟩
         have hqb:w1.heap.size≤q5:=by rw [hq5];exact Nat.le_refl _
         rw [← hq5] at ZA ⊢
         refine hK.out _ _ HA.out (fun hHeld=>?_)
         clear hK K huA hq5
         refine rd1 5 rfl (fun K hK=>?_)
         go_simp
         refine (sX x xs k (d.fns x.funcs) cs1 _ lo _ (C+N) N (by omega) (by omega) H19.out (Nat.le_refl _) (Nat.le_trans HLO.out HA.out.size) (HKD1.out _ HA.out) (ag.At.mono (Nat.le_trans HB1.out HA.out.size) _ (HKXW.out _ HA.out))).mono ?_
         rintro e uC0 ⟨_,cs2,rfl,rfl,hs2,hbC⟩
         have S2:=Hd hs2
         have HbC0:=Hd hbC
         have HC0:=Hd (ae HA.out hbC)
         have ZC0:=Hd ((HbC0.out.block _ (Array.getElem?_eq_some_iff.1 ZA.out).1).trans ZA.out)
         refine hK.out _ _ HC0.out (fun hHeld=>?_)
         clear hK K hbC hs2
         refine rd1 6 rfl (fun K hK=>?_)
         go_simp
         refine (IA.out k hlt _ lo _ B1 N _ es _ cs2 hN (by omega) (Nat.le_refl _) (Nat.le_trans HB1.out HC0.out.size) (Nat.le_trans HLO.out HC0.out.size) (HEN.out.then HC0.out) HG2.out S2.out (HES.out _ HC0.out)).mono ?_
         rw [HEV.out]
         rintro e uC1 ⟨rs5,rfl,hl5,ho5,hbC⟩
         have HO5:=Hd ho5
         have HbC1:=Hd hbC
         have HC1:=Hd (ae HC0.out hbC)
         have ZC1:=Hd ((HbC1.out.block _ (Array.getElem?_eq_some_iff.1 ZC0.out).1).trans ZC0.out)
         refine hK.out _ _ HC1.out (fun hHeld=>?_)
         clear hK K hbC ho5
         refine' tk 7 (.tuple #[.agg rs5.toArray,.int .i64 ev]) rfl rfl (.inl ⟨by rfl,fun u hu=>(by go_simp)⟩) hHeld ?_
         simp only [sq1,sq0]
         refine' tk 8 (.agg rs5.toArray) rfl rfl (.inl ⟨by rfl,fun u hu=>(by go_simp)⟩) hHeld ?_
         simp only [sq1,sq0]
         refine' tk 9 (.int .i64 ev) rfl rfl (.inl ⟨by rfl,fun u hu=>(by go_simp)⟩) hHeld ?_
         simp only [sq1,sq0]
         refine rd1 11 rfl (fun K hK=>?_)
         rw [if_pos (by kernel_rfl)]
         refine wp_store_row 34 _ _ rfl q5 rs5.toArray rfl rfl 34 _ ZC1.out (by rw [List.size_toArray,hl5];exact ay) (show 17=rs5.toArray.size by rw [List.size_toArray,hl5]) HO5.out ?_
         simp only [List.getElem_toArray,List.getElem_cons_succ,List.getElem_cons_zero,Act.put]
         have R5:=Hd (show Below w1.heap.size w1 (World.setRow uC1 q5 rs5.toArray) from HC1.out.trans (aM _ _ hqb))
         have Z5:=Hd (setRow_heap _ q5 _ rs5.toArray _ _ ZC1.out)
         obtain ⟨u5,hu5⟩:∃ u5,u5=World.setRow uC1 q5 rs5.toArray:=⟨_,rfl⟩
         rw [← hu5] at R5 Z5 ⊢
         refine hK.out _ _ R5.out (fun hHeld=>?_)
         clear hK K hu5
         refine rd1 12 rfl (fun K hK=>?_)
         go_simp
         refine hK.out _ _ R5.out (fun hHeldx=>?_)
         clear hK K hHeldx
         refine wpAnyH_done (by kernel_rfl) ?_ _
        all_goals
         have L9:=Hd (show eO (cb ab pb) 147 w u5 xs cs1 lo HB (C+N) (d.fns x.funcs) q 15 34 17 k from L8.out.below R5.out)
         have HVA:=Hd (mW V (d.fns x.funcs) hlt)
         by_cases hev0:ev=0
         case neg =>
          have HR:=Hd (show z=ev by
           have h1:=HZ7.out
           rw [HVA.out,HEV.out,if_pos hev0] at h1
           exact h1)
          have hev1:(ev != 0)=true:=by simpa using hev0
          have hev2:(ev==0)=false:=by simpa using hev0
          have I9:=Hd L9.out.vis
          clear hev0 hHeld
          go_wp2_with (refine wpList_store_row rfl 34 _ _ rfl (w.heap.size+1+1+1) bt.toArray rfl rfl 34 _ I9.out.out kj rfl nu ?_)
          have Z7:=setRow_heap u5 (w.heap.size+3) _ bt.toArray _ _ I9.out.out
          refine bodyPost_ret (ap rfl _ _ (w.heap.size+1+1+1) 34 _ (0,0) _ rfl Z7 Tryz.underlying34 rfl kj) rfl ?_
          exact ⟨bt,by rw [HR.out];rfl,rfl,nu,I9.out.low.trans (aM _ _ (by omega))⟩
         subst hev0
         have HZ8:=Hd (show z=fN V x (d.fns x.funcs) (k+1) by
          have h1:=HZ7.out
          rw [HVA.out,HEV.out,if_neg (by decide)] at h1
          exact h1)
         have hl53:=Hd (show (Tryz.prog.info? 34).map (·.size)=some rs5.length by rw [hl5];exact ay)
         have HBY:=Hd (cf Z5.out)
         obtain ⟨rs,i,v,xr,t1,t2,t3,t4,t5,t6,t7⟩:=L9.out.ret.has
         have HX1:=Hd t1
         have HX2:=Hd t2
         have HX3:=Hd t3
         have HX4:=Hd t4
         have HX6:=Hd t6
         have HX7:=Hd t7
         have HA3:=Hd (show ∀ u∈rs5,u.oneCell'=true from fun u hu=>List.all_eq_true.1 (by simpa using HO5.out) u hu)
         have HA4:=Hd (show k+1≤maxLen by unfold maxLen;omega)
         have HA5:=Hd (show (k+1) * 240≤140737488355328 by omega)
         have HA6:=Hd (show HB≤(u5.alloc (.cells rs5.toArray 34)).heap.size from Nat.le_trans L9.out.ret.size (by rw [World.size_alloc u5];exact Nat.le_succ _))
         have z15:u5.cell? ⟨q,15,none⟩=some v:=by
          have:=cf t1 15 v t6
          rwa [Nat.zero_add] at this
         have hfz:=dk rs5 zE0 (by rw [hl5];rfl)
         have HL5:=Hd (show rs5.length=1 * 17 from hl5)
         clear t1 t2 t3 t4 t5 t6 t7 hHeld
         go_wp2_with (first
          | (at_builtin;refine aU rfl _ _ 31 rfl HB 34 i0 (.agg z0) 17 240 Tryz.underlying31 HI0.out HZ0.out HZ1E.out HZ2.out HZS.out (by decide) v k xr rfl (HX7.out.alloc _) (some ⟨u5.heap.size,0,none⟩) 1 1 rs5 rfl HL5.out (dh _ rs5 34 1) HA3.out HA4.out HA5.out HA6.out ?_)
          | (refine wpList_load_mid rfl 34 _ rfl q5 0 rfl rs5 _ HBY.out Tryz.underlying34 rfl hl53.out ?_))
         intro v6 u6 hown6 hg6
         obtain ⟨a6,c6,rfl⟩:=dD hown6
         obtain ⟨l6,f6,g6⟩:=L9.out.grow hq4 (by omega) (by omega) HX1.out HX2.out HX3.out HX4.out (fun h=>absurd h (by decide)) HX6.out HX7.out hown6 hg6
         have L6:=Hd l6
         clear hown6 hg6 l6 z15 hfz hl5
         go_wp2_with fail
         go_roundw
        case rel=>exact ⟨k+1,by omega,by go_num,L6,HZ8⟩
        case measure=>simp [intOf];omega
        case rel=>exact ⟨k+1,by omega,by go_num,L6,HZ8⟩
        case measure=>simp [intOf];omega
        case rel=>exact ⟨k+1,by omega,by go_num,L6,HZ8⟩
        case measure=>simp [intOf];omega
       case neg =>
        obtain rfl:k=x.args.length:=by omega
        have HRZ:=Hd (show z=0 by rw [HZ7.out,oZ])
        obtain ⟨rs,i,v,xr,t1,t2,t3,t4,t5,t6,t7⟩:=LR.out.ret.has
        have HX1:=Hd (cf t1)
        have hs17:=Hd (show (Tryz.prog.info? 34).map (·.size)=some rs.length by rw [t2];exact ay)
        have hs18:=Hd (show (Tryz.prog.info? 34).map (·.size)=some rs.toArray.size by rw [List.size_toArray,t2];exact ay)
        have h17:=Hd (show bt.toArray.size=rs.toArray.size by simp only [List.size_toArray,t2];rfl)
        have HX2:=Hd t2
        have HX3:=Hd t3
        have Q0:=Hd LR.out.vis.out
        clear t1 t2 t3 t4 t5 t6 t7 d15
        go_wp2_with (first
         | (refine wpList_load_mid rfl 34 _ rfl q 0 rfl rs _ HX1.out Tryz.underlying34 rfl hs17.out ?_)
         | (refine wpList_store_row rfl 34 _ _ rfl (w.heap.size+3) rs.toArray rfl rfl 34 bt.toArray Q0.out hs18.out h17.out HX3.out ?_))
        have Z7:=setRow_heap wR (w.heap.size+3) _ rs.toArray _ _ Q0.out
        refine bodyPost_ret (ap rfl _ _ (w.heap.size+1+1+1) 34 _ (0,0) _ rfl Z7 Tryz.underlying34 rfl hs18.out) rfl ?_
        exact ⟨rs,by rw [HRZ.out];rfl,HX2.out,HX3.out,LR.out.vis.low.trans (aM _ _ (by omega))⟩
def vdE:Nat→ag→Prop
 | 0,e=>qdE e∧e.args=[]∧e.funcs=[]
 | m+1,e=>qdE e∧(∀ f∈e.funcs,iq f.name=false∧∀ p∈f.params,iq p.name=false)∧(∀ a∈e.args,vdE m a)∧∀ f∈e.funcs,vdE m f.body
theorem sj (ab pb:Nat) (l:List al) (BE NE:Nat) (m:Nat):∀ x,vdE m x→VsX ab pb l BE NE x (gT (b5 l) m x) ((m+1) * 2097152):=by
 induction m with
 | zero =>
   intro x h
   obtain ⟨hq,ha,hf⟩:=h
   have h:=oX ab pb l BE NE (fun _ _=>0) 0 x hq (fun f h=>by rw [hf] at h;simp at h) (fun k h=>by rw [ha] at h;simp at h) (fun k h=>by rw [hf] at h;simp at h)
   have e:fh (b5 l) (fun _ _=>0) x=gT (b5 l) 0 x:=by
    funext d
    show fh (b5 l) (fun _ _=>0) x d=fo (b5 l) x d
    unfold fh fg fN
    rw [ha,hf]
    by_cases h0:fo (b5 l) x d=0
    ·rw [h0];rfl
    ·rw [if_pos h0]
   rw [e] at h
   simpa using h
 | succ m ih =>
   intro x h
   have h1:=oX ab pb l BE NE (gT (b5 l) m) ((m+1) * 2097152) x h.1 h.2.1 (fun k hk=>ih _ (h.2.2.1 _ (List.getElem_mem hk))) (fun k hk=>ih _ (h.2.2.2 _ (List.getElem_mem hk)))
   have e:(m+1) * 2097152+2097152=(m+1+1) * 2097152:=by omega
   rw [e] at h1
   exact h1
end Go.Proofs.YtiefeajappjnbaaGreatDoor
