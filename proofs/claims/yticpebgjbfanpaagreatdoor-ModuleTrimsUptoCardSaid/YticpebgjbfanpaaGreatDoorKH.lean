/- The program's walker: module.walker.visit, whatever it resolves (printed by genvig39.py). -/
import Derived.Test.YticpebgjbfanpaaGreatDoorGA
import Derived.Test.YticpebgjbfanpaaGreatDoorVis39
import Derived.Test.YticpebgjbfanpaaGreatDoorKE
import Derived.Test.YticpebgjbfanpaaGreatDoorKG
import Derived.Test.YticpebgjbfanpaaGreatDoorGZ
namespace Go.Proofs.YticpebgjbfanpaaGreatDoor
open Go.RowKit
def okS (g:Gm) (ok:ExprD→ScD→Prop) (x:ExprD) (d:ScD):Prop:=g.okn x d∧(∀ k (h:k<x.funcs.length),ok x.funcs[k].body ((d.fns x.funcs).par x.funcs[k].params))∧∀ k (h:k<x.args.length),ok x.args[k] (d.wit x k)
theorem lie_new {u:World} {o:Obj} {v:Value} {g1 n1 c1 HB:Nat} (hlie:v.ownBlock=some g1∨g1=(u.alloc o).heap.size):∀ q,HB≤q→Value.ownBlock (.slice (some ⟨g1,0,none⟩) n1 c1)=some q→v.ownBlock=some q∨u.heap.size≤q:=by
 intro q _ h
 simp only [Value.ownBlock,Option.some.injEq] at h
 subst h
 rcases hlie with h | h
 ·exact .inl h
 ·rw [World.size_alloc] at h
  exact .inr (by omega)
set_option maxRecDepth 100000 in
set_option maxHeartbeats 6400000 in
theorem vig_step (g:Gm) (hok:g.Ok) (ok:ExprD→ScD→Prop) (f:ExprD→ScD→List ByteArray) (K:Nat) (x:ExprD) (hq:qdE x) (h23:x.op≠23→x.funcs=[])
 (hA:∀ k (h:k<x.args.length),VsG g x.args[k] (ok x.args[k]) (f x.args[k]) K) (hF:∀ k (h:k<x.funcs.length),VsG g x.funcs[k].body (ok x.funcs[k].body) (f x.funcs[k].body) K) :
 VsG g x (okS g ok x) (fun d=>ndC x d++clF f x d x.funcs.length++clA f x d x.args.length) (K+2097152):=by
 intro w lo B B1 N C xs d cs s hN hC hB hB1 hul hlo hS hok2 hd hx
 have IA:=Hd hA
 have IF:=Hd hF
 have HS0:=Hd hS
 have HUL:=Hd hul
 have HULW:=Hd (hul.mono hlo)
 have HB1B:=Hd hB1
 have HD:=Hd hd
 have HX:=Hd hx
 have HOKN:=Hd hok2.1
 have HOF:=Hd hok2.2.1
 have HOA:=Hd hok2.2.2
 have HWI:=Hd (show ∀ k,d.wit x k=(d.fns x.funcs).inn x.op x.name k from fun k=>d.wit_inn k h23)
 have hsz:=Hd (show (Tryz.prog.info? 87).map (·.size)=some cs.length by rw [hd.len];kernel_rfl)
 have hsx:=Hd (show (Tryz.prog.info? 34).map (·.size)=some xs.length by rw [hx.len];exact sizeE)
 have hsw:=Hd (show (Tryz.prog.info? 79).map (·.size)=some g.wl.length by rw [hok.len];kernel_rfl)
 obtain ⟨aa,fa,ac,fc,vs,hh⟩:=hx.has
 have c0:=hh.op
 have c1:=hh.name
 have c15:=hh.args
 have c16:=hh.funcs
 have hal:x.args.length≤N:=hh.own.2.2.1
 have hfl:x.funcs.length≤N:=hh.own.2.2.2
 have HAr:=Hd hh.atArgs
 have HU:=Hd hh.atFuncs
 have HV:=Hd hh.atVal
 have HVS:=Hd hh.val
 have hvz:=Hd (show (Tryz.prog.info? 31).map (·.size)=some vs.length by rw [hh.atVal.len];exact sizeV)
 have I0:=Hd (VisG.start g.m g.wl w xs cs zeroEl 34 34 HULW.out (by decide) (by decide))
 have HFIT:=Hd (show fitsV 1 x.val from ⟨by rw [hq.2.2.1];simp,by rw [hq.2.2.2];simp⟩)
 have HQ19:=Hd hq.1
 have HQB:=Hd hq.2
 have HOWN:=Hd hh.own
 have HVO:=Hd (show x.val.Own N from by obtain ⟨_,_,_,_,_,_,_,ho,_⟩:=hh.atVal.row;exact ho)
 have HLOW:=Hd hlo
 have HB1W:=Hd (Nat.le_trans hB1 HULW.out.b0)
 have HKD:=Hd (show ∀ u,FU g.m w u→ScD.At u lo u.heap.size C d cs from fun u h=>(HD.out.fu h HUL.out hB).mono (Nat.le_trans hB h.size) (Nat.le_refl _))
 have HKX:=Hd (show ∀ u,FU g.m w u→ExprD.At u B1 N x xs from fun u h=>ExprD.At.below (h.low HB1W.out HB1B.out) _ HX.out)
 have HKV:=Hd (show ∀ u,FU g.m w u→ValD.At u B1 N x.val vs from fun u h=>ValD.At.below (h.low HB1W.out HB1B.out) _ HV.out)
 obtain ⟨s9,hs9⟩:∃ s9,(ndC x d++clF f x d x.funcs.length++clA f x d x.args.length).foldl g.psh s=s9:=⟨_,rfl⟩
 have HS9:=Hd hs9
 show Calls Tryz.prog 34 #[.agg g.wl.toArray,.agg xs.toArray,.agg cs.toArray] w (VisGR g x N ((ndC x d++clF f x d x.funcs.length++clA f x d x.args.length).foldl g.psh s) w)
 rw [hs9]
 clear hh hx hA hF hd hq hS hok2 hul hs9
 go_enter Tryz.func34,Tryz.ntmps34
 go_wp2_with (first
  | (refine wpList_load_mid rfl 87 _ rfl (w.heap.size+1+1) 0 rfl cs _ I0.out.range Tryz.underlying87 rfl hsz.out ?_)
  | (refine wpList_load_mid rfl 34 _ rfl (w.heap.size+1) 0 rfl xs _ I0.out.r2.range Tryz.underlying34 rfl hsx.out ?_)
  | (refine wpList_load_mid rfl 79 _ rfl (w.heap.size) 0 rfl g.wl _ I0.out.r1.range Tryz.underlying79 rfl hsw.out ?_))
 have S0:=Hd (hok.keep _ _ _ HS0.out (KeepT.of_below (belowThen (belowThen (belowThen (belowBox w (.cells g.wl.toArray 79)) (belowBox _ (.cells xs.toArray 34))) (belowBox _ (.cells cs.toArray 87))) (belowBox _ (.cells zeroEl.toArray 34)))))
 refine (hok.node x xs d cs s _ lo _ B1 C N (by omega) (by omega) (Nat.le_refl _) HB1B.out HUL.out (Nat.le_trans HLOW.out I0.out.low.size) S0.out HOKN.out (HKD.out _ I0.out.low) (HKX.out _ I0.out.low)).mono ?_
 rintro e u1 ⟨rfl,hs1,hf1⟩
 have I1:=Hd (I0.out.fu hf1)
 obtain ⟨s1,hs1e⟩:∃ s1,(ndC x d).foldl g.psh s=s1:=⟨_,rfl⟩
 rw [hs1e] at hs1
 have HS1E:=Hd hs1e
 have S1:=Hd hs1
 clear hf1 I0 hs1 hs1e S0
 go_wp2_with fail
 refine wp_region_held_drew (S:=fun u=>VisG g.m g.wl w u xs cs zeroEl 34 34∧g.St s1 u) (by kernel_rfl) ⟨I1.out.below (drewW u1),hok.keep _ _ _ S1.out (KeepT.of_below (drewW u1))⟩ (fun hHeld=>?_)
 refine' tk 0 (.pointer (some ⟨w.heap.size+1,0,none⟩)) rfl rfl (.inl ⟨by rfl,fun u hu=>(by go_simp)⟩) hHeld ?_
 simp only [sq1,sq0]
 refine' tk 1 (.int .i64 x.op) rfl rfl (.inl ⟨by rfl,fun u hu=>(by have hc:=hu.1.r2.get0 c0;go_simp)⟩) hHeld ?_
 simp only [sq1,sq0]
 refine' tk 2 (.string x.name) rfl rfl (.inl ⟨by rfl,fun u hu=>(by go_simp)⟩) hHeld ?_
 simp only [sq1,sq0]
 refine' tk 3 (.pointer (some ⟨w.heap.size+1,2,none⟩)) rfl rfl (.inl ⟨by rfl,fun u hu=>(by go_simp)⟩) hHeld ?_
 simp only [sq1,sq0]
 refine' tk 4 _ rfl rfl (yieldsIf_load_mid (by kernel_rfl) 31 _ rfl (w.heap.size+1) 2 rfl vs _ (fun u hu=>hu.1.r2.part HVS.out) Tryz.underlying31 rfl hvz.out) hHeld ?_
 simp only [sq1,sq0]
 refine wpAnyH_ready (rs:=[5,7]) (by kernel_rfl) (by simp) ?_
 refine AllReadyH.cons rfl (fun K hK=>?_) (AllReadyH.cons rfl (fun K hK=>?_) AllReadyH.nil)
 case' refine_1 =>
  go_simp
  refine (copy_ex 1 x.val _ B1 N vs (by omega) HFIT.out (by omega) (Nat.le_trans HB1W.out hHeld.1.low.size) (HKV.out _ hHeld.1.low)).mono ?_
  rintro e u2 ⟨cs2,rfl,hsafe,hb2⟩
  obtain ⟨ya2,la2,va2,yc2,lc2,vc2,rfl,-⟩:=hsafe.here.row
  refine hK.out _ _ ⟨hHeld.1.below hb2,hok.keep _ _ _ hHeld.2 (KeepT.of_below hb2)⟩ (fun hHeld1=>?_)
  clear hK K hHeld hb2 hsafe
  refine' tk 6 (.agg (newE x ya2 la2 va2 yc2 lc2 vc2).toArray) rfl rfl (.inl ⟨by rfl,fun u hu=>(by simp only [ValD.row];go_simp;try rfl)⟩) hHeld1 ?_
  simp only [sq1,sq0]
  refine rd1 7 rfl (fun K hK=>?_)
  go_simp
  refine hK.out _ _ ⟨hHeld1.1.below (belowBox u2 _),hok.keep _ _ _ hHeld1.2 (KeepT.of_below (belowBox u2 _))⟩ (fun hHeld2=>?_)
  clear hK K
  have hz:=heap_alloc_new u2 (.cells zE0 34)
  refine rd1 8 rfl (fun K hK=>?_)
  rw [if_pos (by kernel_rfl)]
  refine wp_store_row 34 _ _ rfl u2.heap.size (newE x ya2 la2 va2 yc2 lc2 vc2).toArray rfl rfl 34 _ hz (newE_size ..) rfl (newE_ones ..) ?_
  simp only [List.getElem_toArray,List.getElem_cons_succ,List.getElem_cons_zero,Act.put]
  have I4:=Hd (hHeld2.1.step (FUB.setRow _ (newE x ya2 la2 va2 yc2 lc2 vc2).toArray (q:=u2.heap.size) (by have:=hHeld1.1.size;omega)))
  have S4:=Hd (hok.keep _ _ _ hHeld2.2 (KeepT.setRow hz (.inl rfl) (Nat.le_trans HULW.out.b0 (by have:=hHeld1.1.size;omega)) (newE x ya2 la2 va2 yc2 lc2 vc2).toArray))
  have T4:=Hd (RetGZ.start x ya2 la2 va2 yc2 lc2 vc2 (setRow_heap _ _ _ (newE x ya2 la2 va2 yc2 lc2 vc2).toArray _ _ hz))
  have hq4:w.heap.size+4≤u2.heap.size:=hHeld1.1.size
  refine hK.out _ _ ⟨I4.out,S4.out⟩ (fun hHeld3=>?_)
  obtain ⟨q,hq⟩:∃ q,q=u2.heap.size:=⟨_,rfl⟩
  rw [← hq] at I4 S4 T4 hq4 ⊢
  obtain ⟨u4,hu4⟩:∃ u4,u4=World.setRow (u2.alloc (.cells zE0 34)) q (newE x ya2 la2 va2 yc2 lc2 vc2).toArray:=⟨_,rfl⟩
  rw [← hu4] at I4 S4 T4 ⊢
  clear hK K hHeld1 hHeld2 hHeld3 hz hq hu4
  refine wpAnyH_done (by kernel_rfl) ?_ _
 case' refine_2 =>
  go_simp
  have D1:=Hd (show Below u1.heap.size u1.drew (u1.alloc (.cells zE0 34)).drew from belowBox u1.drew (.cells zE0 34))
  have hz0:=Hd (show (u1.alloc (.cells zE0 34)).drew.heap[u1.heap.size]?=some (.cells zE0 34 (0,0)) from heap_alloc_new u1 (.cells zE0 34))
  have hq4:w.heap.size+4≤u1.heap.size:=hHeld.1.size
  refine hK.out _ _ ⟨hHeld.1.below D1.out,hok.keep _ _ _ hHeld.2 (KeepT.of_below D1.out)⟩ (fun hHeld2=>?_)
  have hlt0:u1.heap.size<(u1.alloc (.cells zE0 34)).drew.heap.size:=(Array.getElem?_eq_some_iff.1 hz0.out).1
  clear hK K hHeld
  refine rd1 5 rfl (fun K hK=>?_)
  go_simp
  refine (copy_ex 1 x.val _ B1 N vs (by omega) HFIT.out (by omega) (Nat.le_trans HB1W.out hHeld2.1.low.size) (HKV.out _ hHeld2.1.low)).mono ?_
  rintro e u2 ⟨cs2,rfl,hsafe,hb2⟩
  obtain ⟨ya2,la2,va2,yc2,lc2,vc2,rfl,-⟩:=hsafe.here.row
  have hz:=(hb2.block _ hlt0).trans hz0.out
  refine hK.out _ _ ⟨hHeld2.1.below hb2,hok.keep _ _ _ hHeld2.2 (KeepT.of_below hb2)⟩ (fun hHeld1=>?_)
  clear hK K hHeld2 hb2 hsafe hlt0 D1 hz0
  refine' tk 6 (.agg (newE x ya2 la2 va2 yc2 lc2 vc2).toArray) rfl rfl (.inl ⟨by rfl,fun u hu=>(by simp only [ValD.row];go_simp;try rfl)⟩) hHeld1 ?_
  simp only [sq1,sq0]
  refine rd1 8 rfl (fun K hK=>?_)
  rw [if_pos (by kernel_rfl)]
  refine wp_store_row 34 _ _ rfl u1.heap.size (newE x ya2 la2 va2 yc2 lc2 vc2).toArray rfl rfl 34 _ hz (newE_size ..) rfl (newE_ones ..) ?_
  simp only [List.getElem_toArray,List.getElem_cons_succ,List.getElem_cons_zero,Act.put]
  have I4:=Hd (hHeld1.1.step (FUB.setRow _ (newE x ya2 la2 va2 yc2 lc2 vc2).toArray (q:=u1.heap.size) hq4))
  have S4:=Hd (hok.keep _ _ _ hHeld1.2 (KeepT.setRow hz (.inl rfl) (Nat.le_trans HULW.out.b0 (by omega)) (newE x ya2 la2 va2 yc2 lc2 vc2).toArray))
  have T4:=Hd (RetGZ.start x ya2 la2 va2 yc2 lc2 vc2 (setRow_heap _ _ _ (newE x ya2 la2 va2 yc2 lc2 vc2).toArray _ _ hz))
  refine hK.out _ _ ⟨I4.out,S4.out⟩ (fun hHeld3=>?_)
  obtain ⟨q,hq⟩:∃ q,q=u1.heap.size:=⟨_,rfl⟩
  rw [← hq] at I4 S4 T4 hq4 ⊢
  obtain ⟨u4,hu4⟩:∃ u4,u4=World.setRow u2 q (newE x ya2 la2 va2 yc2 lc2 vc2).toArray:=⟨_,rfl⟩
  rw [← hu4] at I4 S4 T4 ⊢
  clear hK K hHeld1 hHeld3 hz hq hu4
  refine wpAnyH_done (by kernel_rfl) ?_ _
 all_goals
  have d16:=I4.out.r2.get0 c16
  go_wp2_with fail
  go_simp
  go_loopw [42] (fun i wr=>∃ k:Nat,k≤x.funcs.length∧i=.int .i64 k∧Hid (∃ cs' gs',gs'=d.gs++gsF (x.funcs.take k)∧VisG g.m g.wl w wr xs cs' zeroEl 34 34∧ScD.At wr lo wr.heap.size (C+k) ⟨d.vs,d.ls,gs'⟩ cs')∧Hid (RetGZ x wr q)∧Hid (g.St s1 wr)) (fun i _=>x.funcs.length-(intOf i).toNat)
  case atStart=>exact ⟨0,by omega,rfl,Hd ⟨cs,d.gs,by simp [gsF],I4.out,HKD.out _ I4.out.low⟩,T4,S4⟩
  case round =>
   obtain ⟨w1,rfl⟩:∃ w1,w1=wr:=⟨wr,rfl⟩
   clear I4 S4 T4 d16
   obtain ⟨k,hk,rfl,HI,T1,S1⟩:=hrel
   obtain ⟨cs1,gs1,hgs1,i1,d1⟩:=HI.out
   have HGS1:=Hd hgs1
   have I1:=Hd i1
   have d16:=I1.out.r2.get0 c16
   clear HI i1 hgs1
   by_cases hlt:k<x.funcs.length
   case pos =>
    obtain ⟨va,la,ga,vc,lc,gc,rfl,hv,hls,hg,k1,k2,k3⟩:=d1
    have HNV:=Hd hv
    have HNL:=Hd hls
    have HNG:=Hd hg
    have K1:=Hd k1
    have K2:=Hd k2
    have K3:=Hd k3
    clear hv hls hg k1 k2 k3
    obtain ⟨b,p,rfl,hb,hget⟩:=HU.out.get (by intro h;simp [h] at hlt)
    obtain ⟨fs,g1,g2⟩:=hget k hlt
    obtain ⟨pa,pc,es,gh⟩:=g2.has
    have HFR:=Hd (show ∀ u,FU g.m w u→CellsAt u b (p+k * 19) fs from fun u hu=>g1.below (hu.low HB1W.out HB1B.out) hb)
    have f0:=(box_at w1 fs 82).get0 gh.name
    have f1:=(box_at w1 fs 82).get0 gh.params
    have hpl:x.funcs[k].params.length≤N:=gh.hp
    have hlf:=Hd (show (Tryz.prog.info? 82).map (·.size)=some fs.length by rw [gh.len];exact sizeFN)
    have hlf2:=Hd (show (Tryz.prog.info? 82).map (·.size)=some fs.toArray.size by rw [List.size_toArray,gh.len];exact sizeFN)
    have h19:=Hd (show 19=fs.toArray.size by rw [List.size_toArray,gh.len])
    have hone:=Hd (show fs.toArray.all (·.oneCell')=true from Go.all_oneCell_toArray gh.one)
    have I2:=Hd (I1.out.below (belowBox w1 (.cells fs.toArray 82)))
    have e2:=I2.out.scp (j:=2) (v:=.slice ga gs1.length gc) rfl
    have HB2:=Hd (belowBox w1 (.cells fs.toArray 82))
    clear g1 g2 gh hget
    go_wp2_with (first
     | (refine wpList_load_mid rfl 82 _ rfl b (p+k * 19) rfl fs _ (HFR.out _ I1.out.low).range Tryz.underlying82 rfl hlf.out ?_)
     | (refine wpList_store_new rfl 82 _ _ rfl _ fs.toArray rfl rfl hlf2.out h19.out hone.out ?_))
    refine (with_g gs1 x.funcs[k].name x.funcs[k].params.length ga gc _ lo lo w1.heap.size (by have:=K3.out;omega) (Nat.le_trans HLOW.out (Nat.le_trans I1.out.low.size HB2.out.size)) HB2.out.size (HNG.out.keep (Kept.of_below HB2.out))).mono ?_
    rintro e w3 ⟨a1,c1',rfl,_,_,hn1,hb1⟩
    have N1:=Hd hn1
    have I3:=Hd (I2.out.below hb1)
    have HB3:=Hd (belowThen HB2.out hb1)
    obtain ⟨m1,hm1⟩:∃ m,(gs1++[(x.funcs[k].name,(x.funcs[k].params.length:Int))]).length=m:=⟨_,rfl⟩
    have HM1:=Hd hm1
    rw [hm1]
    clear hn1 hb1 hm1 f0 f1 e2 d16
    have z1:=I3.out.scp (j:=2) (v:=.slice ga gs1.length gc) rfl
    have fz1:=I3.out.frozen 2
    go_wp2_with fail
    have hz:=I3.out.scp (j:=0) (v:=.slice va d.vs.length vc) rfl
    have hkp:Kept lo w1.heap.size w1 w3:=Kept.of_below HB3.out
    have hs3:=HB3.out.size
    have D4:=Hd (show ∃ cs' gs',gs'=d.gs++gsF (x.funcs.take (k+1))∧VisG g.m g.wl w (w3.setCell ⟨w.heap.size+1+1,2,none⟩ (.slice a1 m1 c1')) xs cs' zeroEl 34 34∧ScD.At (w3.setCell ⟨w.heap.size+1+1,2,none⟩ (.slice a1 m1 c1')) lo (w3.setCell ⟨w.heap.size+1+1,2,none⟩ (.slice a1 m1 c1')).heap.size (C+(k+1)) ⟨d.vs,d.ls,gs'⟩ cs' from
     ⟨_,gs1++[(x.funcs[k].name,(x.funcs[k].params.length:Int))],by rw [gsF_step x.funcs hlt,HGS1.out,List.append_assoc],I3.out.setCell 2 (.slice a1 m1 c1'),va,la,a1,vc,lc,c1',by rw [HM1.out];rfl,(((HNV.out.keep hkp).mono hs3).setCell hz 2 _).mono (by simp),(((HNL.out.keep hkp).mono hs3).setCell hz 2 _).mono (by simp),(N1.out.setCell hz 2 _).mono (by simp),by have:=K1.out;show d.vs.length≤_;omega,by have:=K2.out;show d.ls.length≤_;omega,by have:=K3.out;rw [List.length_append];show gs1.length+1≤_;omega⟩)
    have T4:=Hd ((T1.out.below HB3.out).setCell (g:=w.heap.size+1+1) (j:=2) (v:=.slice a1 m1 c1') (by omega))
    have S4:=Hd (hok.keep _ _ _ S1.out ((KeepT.of_below HB3.out).trans (KeepT.setCell I3.out.box (.inr (.inr rfl)) (Nat.le_trans HULW.out.b0 (by omega)) 2 (.slice a1 m1 c1'))))
    go_roundw
    case rel=>exact ⟨k+1,by omega,by go_num,D4,T4,S4⟩
    case measure=>simp [intOf];omega
   case neg =>
    obtain rfl:k=x.funcs.length:=by omega
    have D1:=Hd (show ScD.At w1 lo w1.heap.size (C+N) (d.fns x.funcs) cs1 by
     have h:=d1.mono (Nat.le_refl _) (show C+x.funcs.length≤C+N by omega)
     have e:=HGS1.out
     rw [List.take_length] at e
     rw [e] at h
     exact h)
    have hsz1:=Hd (show (Tryz.prog.info? 87).map (·.size)=some cs1.length by rw [d1.len];kernel_rfl)
    obtain ⟨z0f,hz0fs,hinfof⟩:=infoFx
    obtain ⟨i0f,hif,hz0f,hz1f,hz2f⟩:=info_parts hinfof
    have HIF:=Hd hif
    have HZ0F:=Hd hz0f
    have HZ1F:=Hd hz1f
    have HZ2F:=Hd hz2f
    have HZSF:=Hd hz0fs
    obtain ⟨HB,hHB⟩:∃ HB,HB=w1.heap.size:=⟨_,rfl⟩
    have L1:=Hd (show LoopG g x N ((ndC x d++clF f x d 0).foldl g.psh s) w w1 xs cs1 lo HB (C+N) (d.fns x.funcs) q 16 82 19 0 from
     ⟨I1.out,by rw [hHB];exact D1.out,T1.out.next (by rw [hHB];exact T1.out.lt) (by rw [hHB];exact Nat.le_refl _),by rw [clF_0,List.append_nil,HS1E.out];exact S1.out⟩)
    clear d1 hif hz0f hz1f hz2f hz0fs hinfof hHB D1 T1 S1 HGS1 gs1
    go_wp2_with fail
    go_simp
    go_loopw [60] (fun i wr=>∃ k:Nat,k≤x.funcs.length∧i=.int .i64 k∧Hid (LoopG g x N ((ndC x d++clF f x d k).foldl g.psh s) w wr xs cs1 lo HB (C+N) (d.fns x.funcs) q 16 82 19 k)) (fun i _=>x.funcs.length-(intOf i).toNat)
    case atStart=>exact ⟨0,by omega,rfl,L1⟩
    case round =>
     obtain ⟨w1,rfl⟩:∃ w1,w1=wr:=⟨wr,rfl⟩
     clear I1 L1 d16
     obtain ⟨k,hk,rfl,L1⟩:=hrel
     have d16:=L1.out.vis.r2.get0 c16
     by_cases hlt:k<x.funcs.length
     case pos =>
      obtain ⟨b,p,rfl,hb,hget⟩:=HU.out.get (by intro h;simp [h] at hlt)
      obtain ⟨fs,g1,g2⟩:=hget k hlt
      have HFR:=Hd (show ∀ u,FU g.m w u→CellsAt u b (p+k * 19) fs from fun u hu=>g1.below (hu.low HB1W.out HB1B.out) hb)
      have G2:=Hd (show ∀ u,FU g.m w u→FuncD.At u B1 N x.funcs[k] fs from fun u hu=>FuncD.At.below (hu.low HB1W.out HB1B.out) _ g2)
      have hlf:=Hd (show (Tryz.prog.info? 82).map (·.size)=some fs.length by rw [g2.len];exact sizeFN)
      have hlf2:=Hd (show (Tryz.prog.info? 82).map (·.size)=some fs.toArray.size by rw [List.size_toArray,g2.len];exact sizeFN)
      have h19:=Hd (show 19=fs.toArray.size by rw [List.size_toArray,g2.len])
      have hone:=Hd (show fs.toArray.all (·.oneCell')=true by obtain ⟨_,_,_,gh⟩:=g2.has;exact Go.all_oneCell_toArray gh.one)
      have L2:=Hd (L1.out.below hok hq4 HUL.out (by decide) (belowBox w1 (.cells fs.toArray 82)))
      have HBX:=Hd (box_at w1 fs 82)
      have HBW:=Hd (belowBox w1 (.cells fs.toArray 82))
      clear g1 g2 hget
      go_wp2_with (first
       | (refine wpList_load_mid rfl 82 _ rfl b (p+k * 19) rfl fs _ (HFR.out _ L1.out.vis.low).range Tryz.underlying82 rfl hlf.out ?_)
       | (refine wpList_load_mid rfl 82 _ rfl w1.heap.size 0 rfl fs _ HBX.out.range Tryz.underlying82 rfl hlf.out ?_)
       | (refine wpList_load_mid rfl 79 _ rfl (w.heap.size) 0 rfl g.wl _ L2.out.vis.r1.range Tryz.underlying79 rfl hsw.out ?_)
       | (refine wpList_load_mid rfl 87 _ rfl (w.heap.size+1+1) 0 rfl cs1 _ L2.out.vis.range Tryz.underlying87 rfl hsz1.out ?_)
       | (refine wpList_store_new rfl 82 _ _ rfl _ fs.toArray rfl rfl hlf2.out h19.out hone.out ?_))
      refine (bod_g g hok (ok x.funcs[k].body) (f x.funcs[k].body) K x.funcs[k] (IF.out k hlt) _ lo _ B1 N (C+N) fs (d.fns x.funcs) cs1 _ hN (by omega) (Nat.le_refl _) HB1B.out HUL.out (Nat.le_trans HLOW.out L2.out.vis.low.size) L2.out.st (HOF.out k hlt) (L2.out.sc.mono L2.out.ret.size (Nat.le_refl _)) (G2.out _ L2.out.vis.low)).mono ?_
      rintro e u3 ⟨rs5,rfl,hl5,ho5,hst5,hfu5,hsf5⟩
      have L3:=Hd (show LoopG g x N ((ndC x d++clF f x d (k+1)).foldl g.psh s) w u3 xs cs1 lo HB (C+N) (d.fns x.funcs) q 16 82 19 k from L2.out.fu hq4 HUL.out (by decide) hfu5 (by rw [clF_step f x d hlt,← List.append_assoc,List.foldl_append];exact hst5))
      have L4:=Hd (L3.out.below hok hq4 HUL.out (by decide) (belowBox u3 (.cells rs5.toArray 82)))
      have F4:=Hd (show FU g.m w1 (u3.alloc (.cells rs5.toArray 82)) from ((FUB.of_below HBW.out).go hfu5 HBW.out.size).go (FUB.of_below (belowBox u3 _)) (Nat.le_trans HBW.out.size hfu5.size))
      have SF5:=Hd hsf5
      have HSZ5:=Hd hfu5.size
      have hl52:=Hd (show (Tryz.prog.info? 82).map (·.size)=some rs5.toArray.size by rw [List.size_toArray,hl5];exact sizeFN)
      have hl53:=Hd (show (Tryz.prog.info? 82).map (·.size)=some rs5.length by rw [hl5];exact sizeFN)
      have hl54:=Hd (show 19=rs5.toArray.size by rw [List.size_toArray,hl5])
      have HO5:=Hd ho5
      have HBY:=Hd (box_at u3 rs5 82)
      obtain ⟨rs,v,xr,hrp⟩:=L1.out.ret.has
      have HOB:=Hd (show ∀ k,v.ownBlock=some k→k<w1.heap.size from fun k hk=>(hrp.2.2.2.2.2.1.lt k hk).2)
      have HQB2:=Hd L1.out.ret.lt
      have HBS:=Hd L1.out.ret.size
      obtain ⟨t1,t2,t3,t4,t6,t7,t8⟩:=hrp.fu L1.out.ret.lt L1.out.ret.size F4.out (HULW.out.mono (by omega)) (by decide)
      have HX8:=Hd t8
      clear hrp
      have HX1:=Hd t1
      have HX2:=Hd t2
      have HX3:=Hd t3
      have HX4:=Hd t4
      have HX6:=Hd t6
      have HX7:=Hd t7
      have HA3:=Hd (show ∀ u∈rs5,u.oneCell'=true from fun u hu=>List.all_eq_true.1 (by simpa using ho5) u hu)
      have HA4:=Hd (show k+1≤maxLen by unfold maxLen;omega)
      have HA5:=Hd (show (k+1) * 280≤140737488355328 by omega)
      have HA6:=Hd (show HB≤((u3.alloc (.cells rs5.toArray 82)).alloc (.cells rs5.toArray 82)).heap.size from Nat.le_trans L4.out.ret.size (by rw [World.size_alloc (u3.alloc (.cells rs5.toArray 82))];exact Nat.le_succ _))
      have z16:(u3.alloc (.cells rs5.toArray 82)).cell? ⟨q,16,none⟩=some v:=by
       have:=row_range t1 16 v t6
       rwa [Nat.zero_add] at this
      have HL9:=Hd hl5
      have HSR:=Hd (show SrcAt ((u3.alloc (.cells rs5.toArray 82)).alloc (.cells rs5.toArray 82)) (some ⟨u3.heap.size+1,0,none⟩) 1 rs5 by have:=src_new (u3.alloc (.cells rs5.toArray 82)) rs5 82 1;rwa [World.size_alloc] at this)
      have hfz:=fold_zip0 rs5 #[.string ⟨#[]⟩,.slice none 0 0,.int .i64 0,.string ⟨#[]⟩,.int .i64 0,.bool false,.bool false,.string ⟨#[]⟩,.int .i64 0,.int .i64 0,.int .i64 0,.int .i64 0,.int .i64 0,.string ⟨#[]⟩,.slice none 0 0,.slice none 0 0,.slice none 0 0,.slice none 0 0,.slice none 0 0] (by rw [hl5];rfl)
      have HL5:=Hd (show rs5.length=1 * 19 from hl5)
      clear hst5 hfu5 hsf5 ho5 t1 t2 t3 t4 t6 t7 t8 d16
      go_wp2_with (first
       | (at_builtin;refine wpList_append_lies _ rfl _ _ 22 rfl HB 82 i0f (.agg z0f) 19 280 Tryz.underlying22 HIF.out HZ0F.out HZ1F.out HZ2F.out HZSF.out (by decide) v k xr rfl (HX7.out.alloc _) ⟨u3.heap.size+1,0,none⟩ 1 1 rs5 rfl HL5.out (HSR.out.2 _ rfl) HA3.out (by decide) HA4.out HA5.out HA6.out _ rfl ?_)
       | (refine wpList_load_mid rfl 82 _ rfl u3.heap.size 0 rfl rs5 _ HBY.out.range Tryz.underlying82 rfl hl53.out ?_)
       | (refine wpList_store_new rfl 82 _ _ rfl _ rs5.toArray rfl rfl hl52.out hl54.out HO5.out ?_))
      intro a6 c6 u6 hown6 hg6 hlie7 hlt6
      have hlie6:v.ownBlock=some a6∨a6=((u3.alloc (.cells rs5.toArray 82)).alloc (.cells rs5.toArray 82)).heap.size:=by rw [World.size_alloc,World.size_alloc];exact hlie7
      obtain ⟨l6,f6,g6⟩:=L4.out.grow hok hq4 (by omega) (by omega) (.inr (.inl rfl)) HX1.out HX2.out HX3.out HX4.out HX6.out HX7.out hown6 hg6
       (HX8.out.grow16 hlt HX7.out.1 HL9.out (fun _=>grow_keep hg6 HQB2.out) (lie_new hlie6)
         (fun ho=>grow_child (L:=(w1.alloc (.cells fs.toArray 82)).heap.size) (((SF5.out ho).mono (fun _ h _=>h)).next (no2:=none) (keep_below (belowBox u3 _) (Nat.le_refl _)) (fun _ _ h=>by cases h)) (Nat.le_trans HBS.out HBW.out.size) (fun k hk=>Nat.lt_of_lt_of_le (HOB.out k hk) HBW.out.size) hg6 hlie6 (Nat.lt_of_lt_of_le HQB2.out (Nat.le_trans HBS.out HBW.out.size))))
      have L6:=Hd l6
      clear hown6 hg6 hlie6 hlie7 hlt6 l6 z16 hfz hl5
      go_wp2_with fail
      go_roundw
      case rel=>exact ⟨k+1,by omega,by go_num,L6⟩
      case measure=>simp [intOf];omega
     case neg =>
      obtain rfl:k=x.funcs.length:=by omega
      obtain ⟨z0,hz0s,hinfo⟩:=infoEx
      obtain ⟨i0,hi,hz0,hz1,hz2⟩:=info_parts hinfo
      have HI0:=Hd hi
      have HZ0:=Hd hz0
      have HZ1E:=Hd hz1
      have HZ2:=Hd hz2
      have HZS:=Hd hz0s
      have L7:=Hd (show LoopG g x N ((ndC x d++clF f x d x.funcs.length++clA f x d 0).foldl g.psh s) w w1 xs cs1 lo HB (C+N) (d.fns x.funcs) q 15 34 17 0 from
       ⟨L1.out.vis,L1.out.sc,L1.out.ret.next,by rw [clA_0,List.append_nil];exact L1.out.st⟩)
      have d15:=L1.out.vis.r2.get0 c15
      clear hi hz0 hz1 hz2 hz0s hinfo L1 d16 HIF HZ0F HZ1F HZ2F HZSF HU IF
      go_wp2_with fail
      go_simp
      go_loopw [85] (fun i wr=>∃ k:Nat,k≤x.args.length∧i=.int .i64 k∧Hid (LoopG g x N ((ndC x d++clF f x d x.funcs.length++clA f x d k).foldl g.psh s) w wr xs cs1 lo HB (C+N) (d.fns x.funcs) q 15 34 17 k)) (fun i _=>x.args.length-(intOf i).toNat)
      case atStart=>exact ⟨0,by omega,rfl,L7⟩
      case round =>
       obtain ⟨wR,rfl⟩:∃ w',w'=wr:=⟨wr,rfl⟩
       clear L7 d15
       obtain ⟨k,hk,rfl,LR⟩:=hrel
       have d15:=LR.out.vis.r2.get0 c15
       by_cases hlt:k<x.args.length
       case pos =>
        obtain ⟨b,p,rfl,hb,hget⟩:=HAr.out.get (by intro h;simp [h] at hlt)
        obtain ⟨es,g1,g2⟩:=hget k hlt
        have HER:=Hd (show ∀ u,FU g.m w u→CellsAt u b (p+k * 17) es from fun u hu=>g1.below (hu.low HB1W.out HB1B.out) hb)
        have hle:=Hd (show (Tryz.prog.info? 34).map (·.size)=some es.length by rw [g2.len];exact sizeE)
        have hle2:=Hd (show (Tryz.prog.info? 34).map (·.size)=some es.toArray.size by rw [List.size_toArray,g2.len];exact sizeE)
        have h17:=Hd (show 17=es.toArray.size by rw [List.size_toArray,g2.len])
        have hone:=Hd (show es.toArray.all (·.oneCell')=true from Go.all_oneCell_toArray g2.one)
        have H19:=Hd (show x.op=19→k≤2 from fun h=>by have:=HQ19.out h;omega)
        have HG4:=Hd g2
        have HG2:=Hd (show ok x.args[k] ((d.fns x.funcs).inn x.op x.name k) by rw [← HWI.out k];exact HOA.out k hlt)
        clear g1 g2 hget
        go_wp2_with (first
         | (refine wpList_load_mid rfl 34 _ rfl b (p+k * 17) rfl es _ (HER.out _ LR.out.vis.low).range Tryz.underlying34 rfl hle.out ?_)
         | (refine wpList_store_new rfl 34 _ _ rfl _ es.toArray rfl rfl hle2.out h17.out hone.out ?_))
        obtain ⟨w1,hw1⟩:∃ w1,w1=wR.alloc (.cells es.toArray 34):=⟨_,rfl⟩
        have L8:=Hd (show LoopG g x N ((ndC x d++clF f x d x.funcs.length++clA f x d k).foldl g.psh s) w w1 xs cs1 lo HB (C+N) (d.fns x.funcs) q 15 34 17 k by rw [hw1];exact LR.out.below hok hq4 HUL.out (by decide) (belowBox wR _))
        have HBW:=Hd (show Below wR.heap.size wR w1 by rw [hw1];exact belowBox wR _)
        have HWS:=Hd (show w1.heap.size=wR.heap.size+1 by rw [hw1];exact World.size_alloc _ _)
        have HRET:=Hd LR.out.ret
        have H18:=Hd (show ∀ u,FU g.m w1 u→CellsAt u wR.heap.size 0 es from fun u hu=>cellsAt_row (hu.row (by rw [hw1];exact heap_alloc_new wR _) (by rw [hw1,World.size_alloc];omega) (by decide) (HULW.out.mono LR.out.vis.low.size)))
        rw [← hw1]
        clear hw1 LR d15
        have I1:=Hd L8.out.vis
        have HLW:=Hd I1.out.low.size
        have HRW:=Hd (show ∀ u,FU g.m w1 u→CellsAt u w.heap.size 0 g.wl from fun u hu=>(I1.out.fu hu).r1)
        have HRX:=Hd (show ∀ u,FU g.m w1 u→CellsAt u (w.heap.size+1) 0 xs from fun u hu=>(I1.out.fu hu).r2)
        have HRS:=Hd (show ∀ u,FU g.m w1 u→VisG g.m g.wl w u xs cs1 zeroEl 34 34 from fun u hu=>I1.out.fu hu)
        have HB1:=Hd (Nat.le_trans HB1W.out HLW.out)
        have HLO:=Hd (Nat.le_trans HLOW.out HLW.out)
        have HUP:=Hd (show ∀ u,FU g.m w1 u→FU g.m w u from fun u hu=>I1.out.low.go hu HLW.out)
        have HKD1:=Hd (show ∀ u,FU g.m w1 u→ScD.At u lo u.heap.size (C+N) (d.fns x.funcs) cs1 from fun u hu=>(L8.out.sc.fu hu HUL.out L8.out.ret.size).mono (Nat.le_trans L8.out.ret.size hu.size) (Nat.le_refl _))
        have HES:=Hd (show ∀ u,FU g.m w1 u→ExprD.At u B1 N x.args[k] es from fun u hu=>ExprD.At.below ((HUP.out u hu).low HB1W.out HB1B.out) _ HG4.out)
        have HKXW:=Hd (show ∀ u,FU g.m w1 u→ExprD.At u B1 N x xs from fun u hu=>HKX.out u (HUP.out u hu))
        have HST:=Hd (show ∀ u,Below w1.heap.size w1 u→g.St ((ndC x d++clF f x d x.funcs.length++clA f x d k).foldl g.psh s) u from fun u hu=>hok.keep _ _ _ L8.out.st (KeepT.of_below hu))
        have HF:=Hd (show ∀ u,Below w1.heap.size w1 u→FU g.m w1 u from fun u hu=>FUB.of_below hu)
        obtain ⟨s2,hs2e⟩:∃ s2,(f x.args[k] ((d.fns x.funcs).inn x.op x.name k)).foldl g.psh ((ndC x d++clF f x d x.funcs.length++clA f x d k).foldl g.psh s)=s2:=⟨_,rfl⟩
        have HSE:=Hd hs2e
        clear hs2e
        have HB0:=Hd (drewW w1)
        refine wp_region_held_drew (S:=fun u=>FU g.m w1 u) (by kernel_rfl) (HF.out _ HB0.out) (fun hHeld=>?_)
        refine' tk 0 _ rfl rfl (yieldsIf_load_mid (by kernel_rfl) 79 _ rfl (w.heap.size) (0) rfl g.wl _ (fun u hu=>(HRW.out _ hu).range) Tryz.underlying79 rfl hsw.out) hHeld ?_
        simp only [sq1,sq0]
        refine' tk 1 _ rfl rfl (yieldsIf_load_mid (by kernel_rfl) 34 _ rfl (wR.heap.size) (0) rfl es _ (fun u hu=>(H18.out _ hu).range) Tryz.underlying34 rfl hle.out) hHeld ?_
        simp only [sq1,sq0]
        refine' tk 2 _ rfl rfl (yieldsIf_load_mid (by kernel_rfl) 34 _ rfl (w.heap.size+1) (0) rfl xs _ (fun u hu=>(HRX.out _ hu).range) Tryz.underlying34 rfl hsx.out) hHeld ?_
        simp only [sq1,sq0]
        refine' tk 3 (.int .i64 k) rfl rfl (.inl ⟨by rfl,fun u hu=>(by go_simp)⟩) hHeld ?_
        simp only [sq1,sq0]
        refine' tk 4 _ rfl rfl (yieldsIf_load_mid (by kernel_rfl) 87 _ rfl (w.heap.size+2) (0) rfl cs1 _ (fun u hu=>(HRS.out _ hu).range) Tryz.underlying87 rfl hsz1.out) hHeld ?_
        simp only [sq1,sq0]
        refine wpAnyH_ready (rs:=[5,10]) (by kernel_rfl) (by simp) ?_
        refine AllReadyH.cons rfl (fun K hK=>?_) (AllReadyH.cons rfl (fun K hK=>?_) AllReadyH.nil)
        case' refine_1 =>
         go_simp
         refine (inner_p x xs k (d.fns x.funcs) cs1 _ lo _ (C+N) N (by omega) (by omega) H19.out (Nat.le_refl _) (Nat.le_trans HLO.out HB0.out.size) (HKD1.out _ (HF.out _ HB0.out)) (ExprD.At.mono (Nat.le_trans HB1.out HB0.out.size) _ (HKXW.out _ (HF.out _ HB0.out)))).mono ?_
         rintro e uC0 ⟨_,cs2,rfl,rfl,hs2,hbC⟩
         have S2:=Hd hs2
         have HbC0:=Hd hbC
         have HC0:=Hd (belowThen HB0.out hbC)
         refine hK.out _ _ (HF.out _ HC0.out) (fun hHeld=>?_)
         clear hK K hbC hs2
         refine wpAnyH_ready (rs:=[6,10]) (by kernel_rfl) (by simp) ?_
         refine AllReadyH.cons rfl (fun K hK=>?_) (AllReadyH.cons rfl (fun K hK=>?_) AllReadyH.nil)
        case' refine_1.refine_1 =>
         go_simp
         refine (IA.out k hlt _ lo _ B1 N _ es _ cs2 _ hN (by omega) (Nat.le_refl _) HB1B.out HUL.out (Nat.le_trans HLO.out HC0.out.size) (HST.out _ HC0.out) HG2.out S2.out (HES.out _ (HF.out _ HC0.out))).mono ?_
         rw [HSE.out]
         rintro e uC1 ⟨rs5,rfl,hl5,ho5,hst5,hfu5,hsf5⟩
         have HO5:=Hd ho5
         have HbC1:=Hd hfu5
         have ST5:=Hd hst5
         have SF5:=Hd hsf5
         have HC1:=Hd (show FU g.m w1 uC1 from (HF.out _ HC0.out).go hfu5 HC0.out.size)
         refine hK.out _ _ HC1.out (fun hHeld=>?_)
         clear hK K ho5 hst5 hfu5 hsf5
         refine' tk 7 (.tuple #[.agg rs5.toArray,.int .i64 0]) rfl rfl (.inl ⟨by rfl,fun u hu=>(by go_simp)⟩) hHeld ?_
         simp only [sq1,sq0]
         refine' tk 8 (.agg rs5.toArray) rfl rfl (.inl ⟨by rfl,fun u hu=>(by go_simp)⟩) hHeld ?_
         simp only [sq1,sq0]
         refine' tk 9 (.int .i64 0) rfl rfl (.inl ⟨by rfl,fun u hu=>(by go_simp)⟩) hHeld ?_
         simp only [sq1,sq0]
         refine rd1 10 rfl (fun K hK=>?_)
         go_simp
         obtain ⟨uA,huA⟩:∃ uA,uA=uC1.alloc (.cells zE0 34):=⟨_,rfl⟩
         rw [← huA]
         have HbA:=Hd (show Below uC1.heap.size uC1 uA by rw [huA];exact belowBox uC1 _)
         have ZA:=Hd (show uA.heap[uC1.heap.size]?=some (.cells zE0 34 (0,0)) by rw [huA];exact heap_alloc_new uC1 _)
         have HA:=Hd (show FU g.m w1 uA from HC1.out.go (FUB.of_below HbA.out) HC1.out.size)
         obtain ⟨q5,hq5⟩:∃ q5,q5=uC1.heap.size:=⟨_,rfl⟩
         have hqb:w1.heap.size≤q5:=by rw [hq5];exact HC1.out.size
         rw [← hq5] at ZA ⊢
         refine hK.out _ _ HA.out (fun hHeld=>?_)
         have HQE:=Hd hq5
         clear hK K huA hq5
         refine rd1 11 rfl (fun K hK=>?_)
         rw [if_pos (by kernel_rfl)]
         refine wp_store_row 34 _ _ rfl q5 rs5.toArray rfl rfl 34 _ ZA.out (by rw [List.size_toArray,hl5];exact sizeE) (show 17=rs5.toArray.size by rw [List.size_toArray,hl5]) HO5.out ?_
         simp only [List.getElem_toArray,List.getElem_cons_succ,List.getElem_cons_zero,Act.put]
         have R5:=Hd (show FU g.m w1 (World.setRow uA q5 rs5.toArray) from HA.out.trans (FUB.setRow _ _ hqb))
         have S5:=Hd (show g.St s2 (World.setRow uA q5 rs5.toArray) from hok.keep _ _ _ ST5.out ((KeepT.of_below HbA.out).trans (KeepT.setRow ZA.out (.inl rfl) (Nat.le_trans HULW.out.b0 (Nat.le_trans HLW.out hqb)) _)))
         have X5:=Hd (show ¬ g.m.on→Safe w1.heap.size none (World.setRow uA q5 rs5.toArray) (fun c=>ExprD.At c c.heap.size N x.args[k] rs5) from fun ho=>((SF5.out ho).next ⟨by have:=HbA.out.size;simpa using this,fun k _ hk _=>(setRow_other _ _ _ _ (by have:=HQE.out;omega)).trans (HbA.out.block k hk)⟩ (fun _ _ h=>by cases h)).wide HC0.out.size)
         have Z5:=Hd (setRow_heap _ q5 _ rs5.toArray _ _ ZA.out)
         obtain ⟨u5,hu5⟩:∃ u5,u5=World.setRow uA q5 rs5.toArray:=⟨_,rfl⟩
         rw [← hu5] at R5 Z5 S5 X5 ⊢
         refine hK.out _ _ R5.out (fun hHeld=>?_)
         clear hK K hu5
         refine rd1 12 rfl (fun K hK=>?_)
         go_simp
         refine hK.out _ _ R5.out (fun hHeldx=>?_)
         clear hK K hHeldx
         refine wpAnyH_done (by kernel_rfl) ?_ _
        case' refine_1.refine_2 =>
         go_simp
         obtain ⟨uA,huA⟩:∃ uA,uA=uC0.alloc (.cells zE0 34):=⟨_,rfl⟩
         rw [← huA]
         have HbA:=Hd (show Below uC0.heap.size uC0 uA by rw [huA];exact belowBox uC0 _)
         have ZA:=Hd (show uA.heap[uC0.heap.size]?=some (.cells zE0 34 (0,0)) by rw [huA];exact heap_alloc_new uC0 _)
         have HA:=Hd (belowThen HC0.out HbA.out)
         obtain ⟨q5,hq5⟩:∃ q5,q5=uC0.heap.size:=⟨_,rfl⟩
         have hqb:w1.heap.size≤q5:=by rw [hq5];exact HC0.out.size
         rw [← hq5] at ZA ⊢
         have SA:=Hd ((S2.out.keep (Kept.of_below HbA.out)).mono HbA.out.size (Nat.le_refl _))
         refine hK.out _ _ (HF.out _ HA.out) (fun hHeld=>?_)
         clear hK K huA hq5
         refine rd1 6 rfl (fun K hK=>?_)
         go_simp
         refine (IA.out k hlt _ lo _ B1 N _ es _ cs2 _ hN (by omega) (Nat.le_refl _) HB1B.out HUL.out (Nat.le_trans HLO.out HA.out.size) (HST.out _ HA.out) HG2.out SA.out (HES.out _ (HF.out _ HA.out))).mono ?_
         rw [HSE.out]
         rintro e uC1 ⟨rs5,rfl,hl5,ho5,hst5,hfu5,hsf5⟩
         have HO5:=Hd ho5
         have HbC1:=Hd hfu5
         have ST5:=Hd hst5
         have SF5:=Hd hsf5
         have HC1:=Hd (show FU g.m w1 uC1 from (HF.out _ HA.out).go hfu5 HA.out.size)
         have ZC1:=Hd (HbC1.out.row ZA.out (Array.getElem?_eq_some_iff.1 ZA.out).1 (by decide) (HULW.out.mono (Nat.le_trans HLW.out hqb)))
         refine hK.out _ _ HC1.out (fun hHeld=>?_)
         clear hK K ho5 hst5 hfu5 hsf5
         refine' tk 7 (.tuple #[.agg rs5.toArray,.int .i64 0]) rfl rfl (.inl ⟨by rfl,fun u hu=>(by go_simp)⟩) hHeld ?_
         simp only [sq1,sq0]
         refine' tk 8 (.agg rs5.toArray) rfl rfl (.inl ⟨by rfl,fun u hu=>(by go_simp)⟩) hHeld ?_
         simp only [sq1,sq0]
         refine' tk 9 (.int .i64 0) rfl rfl (.inl ⟨by rfl,fun u hu=>(by go_simp)⟩) hHeld ?_
         simp only [sq1,sq0]
         refine rd1 11 rfl (fun K hK=>?_)
         rw [if_pos (by kernel_rfl)]
         refine wp_store_row 34 _ _ rfl q5 rs5.toArray rfl rfl 34 _ ZC1.out (by rw [List.size_toArray,hl5];exact sizeE) (show 17=rs5.toArray.size by rw [List.size_toArray,hl5]) HO5.out ?_
         simp only [List.getElem_toArray,List.getElem_cons_succ,List.getElem_cons_zero,Act.put]
         have R5:=Hd (show FU g.m w1 (World.setRow uC1 q5 rs5.toArray) from HC1.out.trans (FUB.setRow _ _ hqb))
         have S5:=Hd (show g.St s2 (World.setRow uC1 q5 rs5.toArray) from hok.keep _ _ _ ST5.out (KeepT.setRow ZC1.out (.inl rfl) (Nat.le_trans HULW.out.b0 (Nat.le_trans HLW.out hqb)) _))
         have hq5l:=(Array.getElem?_eq_some_iff.1 ZA.out).1
         have X5:=Hd (show ¬ g.m.on→Safe w1.heap.size none (World.setRow uC1 q5 rs5.toArray) (fun c=>ExprD.At c c.heap.size N x.args[k] rs5) from fun ho=>((SF5.out ho).next (keep_setRow uC1 q5 _ _ hq5l) (fun _ _ h=>by cases h)).wide HA.out.size)
         clear hq5l
         have Z5:=Hd (setRow_heap _ q5 _ rs5.toArray _ _ ZC1.out)
         obtain ⟨u5,hu5⟩:∃ u5,u5=World.setRow uC1 q5 rs5.toArray:=⟨_,rfl⟩
         rw [← hu5] at R5 Z5 S5 X5 ⊢
         refine hK.out _ _ R5.out (fun hHeld=>?_)
         clear hK K hu5
         refine rd1 12 rfl (fun K hK=>?_)
         go_simp
         refine hK.out _ _ R5.out (fun hHeldx=>?_)
         clear hK K hHeldx
         refine wpAnyH_done (by kernel_rfl) ?_ _
        case' refine_2 =>
         go_simp
         obtain ⟨uA,huA⟩:∃ uA,uA=(w1.alloc (.cells zE0 34)).drew:=⟨_,rfl⟩
         rw [← huA]
         have HbA:=Hd (show Below w1.drew.heap.size w1.drew uA by rw [huA];exact belowBox w1.drew _)
         have ZA:=Hd (show uA.heap[w1.heap.size]?=some (.cells zE0 34 (0,0)) by rw [huA];exact heap_alloc_new w1 _)
         have HA:=Hd (belowThen HB0.out HbA.out)
         obtain ⟨q5,hq5⟩:∃ q5,q5=w1.heap.size:=⟨_,rfl⟩
         have hqb:w1.heap.size≤q5:=by rw [hq5];exact Nat.le_refl _
         rw [← hq5] at ZA ⊢
         refine hK.out _ _ (HF.out _ HA.out) (fun hHeld=>?_)
         clear hK K huA hq5
         refine rd1 5 rfl (fun K hK=>?_)
         go_simp
         refine (inner_p x xs k (d.fns x.funcs) cs1 _ lo _ (C+N) N (by omega) (by omega) H19.out (Nat.le_refl _) (Nat.le_trans HLO.out HA.out.size) (HKD1.out _ (HF.out _ HA.out)) (ExprD.At.mono (Nat.le_trans HB1.out HA.out.size) _ (HKXW.out _ (HF.out _ HA.out)))).mono ?_
         rintro e uC0 ⟨_,cs2,rfl,rfl,hs2,hbC⟩
         have S2:=Hd hs2
         have HbC0:=Hd hbC
         have HC0:=Hd (belowThen HA.out hbC)
         have ZC0:=Hd ((HbC0.out.block _ (Array.getElem?_eq_some_iff.1 ZA.out).1).trans ZA.out)
         refine hK.out _ _ (HF.out _ HC0.out) (fun hHeld=>?_)
         clear hK K hbC hs2
         refine rd1 6 rfl (fun K hK=>?_)
         go_simp
         refine (IA.out k hlt _ lo _ B1 N _ es _ cs2 _ hN (by omega) (Nat.le_refl _) HB1B.out HUL.out (Nat.le_trans HLO.out HC0.out.size) (HST.out _ HC0.out) HG2.out S2.out (HES.out _ (HF.out _ HC0.out))).mono ?_
         rw [HSE.out]
         rintro e uC1 ⟨rs5,rfl,hl5,ho5,hst5,hfu5,hsf5⟩
         have HO5:=Hd ho5
         have HbC1:=Hd hfu5
         have ST5:=Hd hst5
         have SF5:=Hd hsf5
         have HC1:=Hd (show FU g.m w1 uC1 from (HF.out _ HC0.out).go hfu5 HC0.out.size)
         have ZC1:=Hd (HbC1.out.row ZC0.out (Array.getElem?_eq_some_iff.1 ZC0.out).1 (by decide) (HULW.out.mono (Nat.le_trans HLW.out hqb)))
         refine hK.out _ _ HC1.out (fun hHeld=>?_)
         clear hK K ho5 hst5 hfu5 hsf5
         refine' tk 7 (.tuple #[.agg rs5.toArray,.int .i64 0]) rfl rfl (.inl ⟨by rfl,fun u hu=>(by go_simp)⟩) hHeld ?_
         simp only [sq1,sq0]
         refine' tk 8 (.agg rs5.toArray) rfl rfl (.inl ⟨by rfl,fun u hu=>(by go_simp)⟩) hHeld ?_
         simp only [sq1,sq0]
         refine' tk 9 (.int .i64 0) rfl rfl (.inl ⟨by rfl,fun u hu=>(by go_simp)⟩) hHeld ?_
         simp only [sq1,sq0]
         refine rd1 11 rfl (fun K hK=>?_)
         rw [if_pos (by kernel_rfl)]
         refine wp_store_row 34 _ _ rfl q5 rs5.toArray rfl rfl 34 _ ZC1.out (by rw [List.size_toArray,hl5];exact sizeE) (show 17=rs5.toArray.size by rw [List.size_toArray,hl5]) HO5.out ?_
         simp only [List.getElem_toArray,List.getElem_cons_succ,List.getElem_cons_zero,Act.put]
         have R5:=Hd (show FU g.m w1 (World.setRow uC1 q5 rs5.toArray) from HC1.out.trans (FUB.setRow _ _ hqb))
         have S5:=Hd (show g.St s2 (World.setRow uC1 q5 rs5.toArray) from hok.keep _ _ _ ST5.out (KeepT.setRow ZC1.out (.inl rfl) (Nat.le_trans HULW.out.b0 (Nat.le_trans HLW.out hqb)) _))
         have hq5l:=(Array.getElem?_eq_some_iff.1 ZC0.out).1
         have X5:=Hd (show ¬ g.m.on→Safe w1.heap.size none (World.setRow uC1 q5 rs5.toArray) (fun c=>ExprD.At c c.heap.size N x.args[k] rs5) from fun ho=>((SF5.out ho).next (keep_setRow uC1 q5 _ _ hq5l) (fun _ _ h=>by cases h)).wide HC0.out.size)
         clear hq5l
         have Z5:=Hd (setRow_heap _ q5 _ rs5.toArray _ _ ZC1.out)
         obtain ⟨u5,hu5⟩:∃ u5,u5=World.setRow uC1 q5 rs5.toArray:=⟨_,rfl⟩
         rw [← hu5] at R5 Z5 S5 X5 ⊢
         refine hK.out _ _ R5.out (fun hHeld=>?_)
         clear hK K hu5
         refine rd1 12 rfl (fun K hK=>?_)
         go_simp
         refine hK.out _ _ R5.out (fun hHeldx=>?_)
         clear hK K hHeldx
         refine wpAnyH_done (by kernel_rfl) ?_ _
        all_goals
         have L9:=Hd (show LoopG g x N ((ndC x d++clF f x d x.funcs.length++clA f x d (k+1)).foldl g.psh s) w u5 xs cs1 lo HB (C+N) (d.fns x.funcs) q 15 34 17 k from L8.out.fu hq4 HUL.out (by decide) R5.out (by rw [clA_step f x d hlt,← List.append_assoc,List.foldl_append,HWI.out k,HSE.out];exact S5.out))
         have F4:=Hd (show FU g.m wR u5 from (FUB.of_below HBW.out).go R5.out HBW.out.size)
         have hl53:=Hd (show (Tryz.prog.info? 34).map (·.size)=some rs5.length by rw [hl5];exact sizeE)
         have HBY:=Hd (row_range Z5.out)
         obtain ⟨rs,v,xr,hrp⟩:=HRET.out.has
         have HOB:=Hd (show ∀ k,v.ownBlock=some k→k<wR.heap.size from fun k hk=>(hrp.2.2.2.2.2.1.lt k hk).2)
         have HQB2:=Hd HRET.out.lt
         have HBS:=Hd HRET.out.size
         obtain ⟨t1,t2,t3,t4,t6,t7,t8⟩:=hrp.fu HRET.out.lt HRET.out.size F4.out (HULW.out.mono (by omega)) (by decide)
         have HX8:=Hd t8
         have HL9:=Hd hl5
         clear hrp
         have HX1:=Hd t1
         have HX2:=Hd t2
         have HX3:=Hd t3
         have HX4:=Hd t4
         have HX6:=Hd t6
         have HX7:=Hd t7
         have HA3:=Hd (show ∀ u∈rs5,u.oneCell'=true from fun u hu=>List.all_eq_true.1 (by simpa using HO5.out) u hu)
         have HA4:=Hd (show k+1≤maxLen by unfold maxLen;omega)
         have HA5:=Hd (show (k+1) * 240≤140737488355328 by omega)
         have HA6:=Hd (show HB≤(u5.alloc (.cells rs5.toArray 34)).heap.size from Nat.le_trans L9.out.ret.size (by rw [World.size_alloc u5];exact Nat.le_succ _))
         have z15:u5.cell? ⟨q,15,none⟩=some v:=by
          have:=row_range t1 15 v t6
          rwa [Nat.zero_add] at this
         have hfz:=fold_zip0 rs5 zE0 (by rw [hl5];rfl)
         have HL5:=Hd (show rs5.length=1 * 17 from hl5)
         clear t1 t2 t3 t4 t6 t7 t8 hHeld
         go_wp2_with (first
          | (at_builtin;refine wpList_append_lies _ rfl _ _ 32 rfl HB 34 i0 (.agg z0) 17 240 Tryz.underlying32 HI0.out HZ0.out HZ1E.out HZ2.out HZS.out (by decide) v k xr rfl (HX7.out.alloc _) ⟨u5.heap.size,0,none⟩ 1 1 rs5 rfl HL5.out ((src_new _ rs5 34 1).2 _ rfl) HA3.out (by decide) HA4.out HA5.out HA6.out _ rfl ?_)
          | (refine wpList_load_mid rfl 34 _ rfl q5 0 rfl rs5 _ HBY.out Tryz.underlying34 rfl hl53.out ?_))
         intro a6 c6 u6 hown6 hg6 hlie7 hlt6
         have hlie6:v.ownBlock=some a6∨a6=(u5.alloc (.cells rs5.toArray 34)).heap.size:=by rw [World.size_alloc];exact hlie7
         obtain ⟨l6,f6,g6⟩:=L9.out.grow hok hq4 (by omega) (by omega) (.inl rfl) HX1.out HX2.out HX3.out HX4.out HX6.out HX7.out hown6 hg6
          (HX8.out.grow15 hlt HX7.out.1 HL9.out (fun _=>grow_keep hg6 HQB2.out) (lie_new hlie6)
            (fun ho=>grow_child (L:=w1.heap.size) ((X5.out ho).mono (fun _ h _=>h)) (by have:=HBS.out;have:=HWS.out;omega) (fun k hk=>by have:=HOB.out k hk;have:=HWS.out;omega) hg6 hlie6 (by have:=HQB2.out;have:=HBS.out;have:=HWS.out;omega)))
         have L6:=Hd l6
         clear hown6 hg6 hlie6 hlie7 hlt6 l6 z15 hfz hl5
         go_wp2_with fail
         go_roundw
        case rel=>exact ⟨k+1,by omega,by go_num,L6⟩
        case measure=>simp [intOf];omega
        case rel=>exact ⟨k+1,by omega,by go_num,L6⟩
        case measure=>simp [intOf];omega
        case rel=>exact ⟨k+1,by omega,by go_num,L6⟩
        case measure=>simp [intOf];omega
       case neg =>
        obtain rfl:k=x.args.length:=by omega
        obtain ⟨rs,v,xr,t1,t2,t3,t4,t6,t7,t8⟩:=LR.out.ret.has
        have HEX:=Hd (show ¬ g.m.on→Safe HB none wR (fun c=>ExprD.At c c.heap.size N x rs) from fun ho=>by
         obtain ⟨fa2,fc2,⟨ya,la,va,yc,lc,vc,h1⟩,h2⟩:=t8.2 rfl
         obtain ⟨ad,cp,rfl,hes⟩:=exprs_safe (N:=N) (L:=HB) (l:=x.args) (G:=fun _=>True) t7 rfl (Nat.le_refl _) (fun i hi=>(h2 ho).2 i hi hi)
         intro c hc
         rw [h1]
         exact ExprD.At.mk HOWN.out HVO.out (.inl HQB.out.1) (by rw [HQB.out.2.1];trivial) (by rw [HQB.out.2.2];trivial) (hes c hc trivial) ((h2 ho).1.weak c hc trivial))
        have HBS:=Hd LR.out.ret.size
        have HQB2:=Hd LR.out.ret.lt
        have HX1:=Hd (row_range t1)
        have hs17:=Hd (show (Tryz.prog.info? 34).map (·.size)=some rs.length by rw [t2];exact sizeE)
        have hs18:=Hd (show (Tryz.prog.info? 34).map (·.size)=some rs.toArray.size by rw [List.size_toArray,t2];exact sizeE)
        have h17:=Hd (show zeroEl.toArray.size=rs.toArray.size by simp only [List.size_toArray,t2];rfl)
        have HX2:=Hd t2
        have HX3:=Hd t3
        have Q0:=Hd LR.out.vis.out
        clear t1 t2 t3 t4 t6 t7 t8 d15
        go_wp2_with (first
         | (refine wpList_load_mid rfl 34 _ rfl q 0 rfl rs _ HX1.out Tryz.underlying34 rfl hs17.out ?_)
         | (refine wpList_store_row rfl 34 _ _ rfl (w.heap.size+3) rs.toArray rfl rfl 34 zeroEl.toArray Q0.out hs18.out h17.out HX3.out ?_))
        have Z7:=setRow_heap wR (w.heap.size+3) _ rs.toArray _ _ Q0.out
        refine bodyPost_ret (results_cell_row2 rfl _ _ (w.heap.size+1+1+1) 34 _ (0,0) _ rfl Z7 Tryz.underlying34 rfl hs18.out) rfl ?_
        refine ⟨rs,rfl,HX2.out,HX3.out,hok.keep _ _ _ (by rw [← HS9.out];exact LR.out.st) (KeepT.setRow Q0.out (.inl rfl) (Nat.le_trans HULW.out.b0 (by omega)) _),LR.out.vis.low.trans (FUB.setRow _ _ (by omega)),fun ho=>?_⟩
        exact ((HEX.out ho).next (no2:=none) (keep_setRow wR (w.heap.size+3) HB _ (by have:=HQB2.out;omega)) (fun _ _ h=>by cases h)).wide (by have:=HQB2.out;omega)
end Go.Proofs.YticpebgjbfanpaaGreatDoor

/- A walk over all of a tree: what is asked of it below all its nodes; the walker of module.Trim. -/
namespace Go.Proofs.YticpebgjbfanpaaGreatDoor
open Go.RowKit
def okA (g:Gm):Nat→ExprD→ScD→Prop
 | 0,x,d=>g.okn x d
 | m+1,x,d=>okS g (okA g m) x d
theorem vig_all (g:Gm) (hok:g.Ok) (m:Nat):∀ x,vdE m x→vdR m x→VsG g x (okA g m x) (clE m x) ((m+1) * 2097152):=by
 induction m with
 | zero =>
   intro x h h2
   obtain ⟨hq,ha,hf⟩:=h
   have h:=vig_step g hok (fun _ _=>True) (fun _ _=>[]) 0 x hq (fun _=>hf) (fun k h=>by rw [ha] at h;simp at h) (fun k h=>by rw [hf] at h;simp at h)
   have e:(fun d=>ndC x d++clF (fun _ _=>[]) x d x.funcs.length++clA (fun _ _=>[]) x d x.args.length)=clE 0 x:=by
    funext d
    rw [ha,hf]
    show ndC x d++clF _ x d 0++clA _ x d 0=ndC x d
    rw [clF_0,clA_0]
    simp
   have e2:okS g (fun _ _=>True) x=okA g 0 x:=by
    funext d
    exact propext ⟨fun h=>h.1,fun h=>⟨h,fun _ _=>trivial,fun _ _=>trivial⟩⟩
   rw [e,e2] at h
   simpa using h
 | succ m ih =>
   intro x h h2
   have h1:=vig_step g hok (okA g m) (clE m) ((m+1) * 2097152) x h.1 h2.1 (fun k hk=>ih _ (h.2.2.1 _ (List.getElem_mem hk)) (h2.2.2.1 _ (List.getElem_mem hk))) (fun k hk=>ih _ (h.2.2.2 _ (List.getElem_mem hk)) (h2.2.2.2 _ (List.getElem_mem hk)))
   have e:(m+1) * 2097152+2097152=(m+1+1) * 2097152:=by omega
   rw [e] at h1
   exact h1
theorem okA_U (p:UsP) (l:List FuncD) (j:Nat):∀ (m:Nat) (x:ExprD) (d:ScD),vdE m x→vdR m x→GsOk d→okA (gU p l j) m x d
 | 0,_,_,_,_,hg=>hg
 | m+1,x,d,h,h2,hg=>by
   have hf:=hg.fns (l:=x.funcs) (fun f hf=>(h.2.1 f hf).1)
   refine ⟨hg,fun k hk=>okA_U p l j m _ _ (h.2.2.2 _ (List.getElem_mem hk)) (h2.2.2.2 _ (List.getElem_mem hk)) (hf.par (h.2.1 _ (List.getElem_mem hk)).2),fun k hk=>?_⟩
   rw [d.wit_inn k h2.1]
   exact okA_U p l j m _ _ (h.2.2.1 _ (List.getElem_mem hk)) (h2.2.2.1 _ (List.getElem_mem hk)) hf.inn
def StT (ab pb:Nat) (l:List FuncD) (BE NE b0:Nat) (_:List Nat) (w:World):Prop:=∃ w0,EnvW ab pb l BE NE w0∧w0.heap.size=b0∧Below b0 w0 w
def gT (ab pb:Nat) (l:List FuncD) (BE NE b0:Nat):Gm:=⟨⟨False,b0,0,0⟩,wlkD ab pb,StT ab pb l BE NE b0,fun L _=>L,fun x d=>GsOk d∧nodE (resE l) x d=0⟩
theorem StT.env {ab pb:Nat} {l:List FuncD} {BE NE b0:Nat} {s:List Nat} {w:World} (h:StT ab pb l BE NE b0 s w):EnvW ab pb l BE NE w:=by
 obtain ⟨w0,h1,rfl,h2⟩:=h
 exact h1.then h2
theorem gT_ok (ab pb:Nat) (l:List FuncD) (BE NE b0:Nat):(gT ab pb l BE NE b0).Ok:=by
 have kp:∀ s w w',StT ab pb l BE NE b0 s w→KeepT (gT ab pb l BE NE b0).m w w'→StT ab pb l BE NE b0 s w':=fun s w w' h hk=>by
  obtain ⟨w0,h1,rfl,h2⟩:=h
  exact ⟨w0,h1,rfl,h2.trans ⟨hk.os,hk.tape,hk.output,hk.size,fun k hk1=>hk.block k (Nat.lt_of_lt_of_le hk1 h2.size) (.inl hk1)⟩⟩
 refine ⟨rfl,kp,fun x xs d cs s w lo B B1 C N hC hN hB hB1 hul hlo hS hg hd hx=>?_⟩
 have hsz:b0≤w.heap.size:=by obtain ⟨w0,_,rfl,h2⟩:=hS;exact h2.size
 refine (node_p ab pb l BE NE x xs d cs w lo B B1 C N hC hN hB (Nat.le_trans hB1 hsz) (StT.env (s:=s) hS) hg.1 hd hx).mono ?_
 rw [hg.2]
 rintro e w' ⟨nm,rfl,hn,hb⟩
 obtain rfl:=hn rfl
 exact ⟨rfl,kp _ _ _ (by
  have:∀ (c:List ByteArray) (L:List Nat),c.foldl (fun L _=>L) L=L:=fun c=>by induction c with | nil=>intro L;rfl | cons a r ih=>intro L;exact ih L
  show StT ab pb l BE NE b0 ((ndC x d).foldl (fun L _=>L) s) w
  rw [this]
  exact hS) (KeepT.of_below hb),FUB.of_below hb⟩
theorem first_nil {l:List Int} (h:firstE l=0):∀ z∈l,z=0:=by
 induction l with
 | nil=>intro z hz;cases hz
 | cons y r ih =>
   intro z hz
   unfold firstE at h
   by_cases hy:y=0
   ·subst hy
    rw [if_neg (by decide)] at h
    rcases List.mem_cons.1 hz with rfl | hz
    ·rfl
    ·exact ih h z hz
   ·rw [if_pos hy] at h
    exact absurd h hy
theorem okA_T (ab pb:Nat) (l:List FuncD) (BE NE b0:Nat):∀ (m:Nat) (x:ExprD) (d:ScD),vdE m x→vdR m x→GsOk d→visE (resE l) m x d=0→okA (gT ab pb l BE NE b0) m x d
 | 0,_,_,_,_,hg,hz=>⟨hg,hz⟩
 | m+1,x,d,h,h2,hg,hz=>by
   have hf:=hg.fns (l:=x.funcs) (fun f hf=>(h.2.1 f hf).1)
   have hz1:stepE (resE l) (visE (resE l) m) x d=0:=hz
   have hn:nodE (resE l) x d=0:=by
    by_cases h0:nodE (resE l) x d=0
    ·exact h0
    ·rw [stepE_node rfl h0] at hz1
     exact hz1
   rw [stepE_go hn] at hz1
   have hF:visF (visE (resE l) m) x.funcs (d.fns x.funcs) 0=0:=by
    by_cases h0:visF (visE (resE l) m) x.funcs (d.fns x.funcs) 0=0
    ·exact h0
    ·rw [if_pos h0] at hz1
     exact hz1
   rw [hF,if_neg (by decide)] at hz1
   have hF1:=first_nil (show firstE ((x.funcs.drop 0).map fun f=>visE (resE l) m f.body ((d.fns x.funcs).par f.params))=0 from hF)
   have hA1:=first_nil (show firstE (((List.range x.args.length).drop 0).map fun i=>visE (resE l) m (x.args.getD i default) ((d.fns x.funcs).inn x.op x.name i))=0 from hz1)
   refine ⟨⟨hg,hn⟩,fun k hk=>okA_T ab pb l BE NE b0 m _ _ (h.2.2.2 _ (List.getElem_mem hk)) (h2.2.2.2 _ (List.getElem_mem hk)) (hf.par (h.2.1 _ (List.getElem_mem hk)).2) ?_,fun k hk=>?_⟩
   ·exact hF1 _ (List.mem_map.2 ⟨_,by rw [List.drop_zero];exact List.getElem_mem hk,rfl⟩)
   ·rw [d.wit_inn k h2.1]
    refine okA_T ab pb l BE NE b0 m _ _ (h.2.2.1 _ (List.getElem_mem hk)) (h2.2.2.1 _ (List.getElem_mem hk)) hf.inn ?_
    have:=hA1 _ (List.mem_map.2 ⟨k,by rw [List.drop_zero];exact List.mem_range.2 hk,rfl⟩)
    rwa [List.getD_eq_getElem?_getD,List.getElem?_eq_getElem hk] at this
end Go.Proofs.YticpebgjbfanpaaGreatDoor
