/- The program's check of functions (qparse.functions), given 'visit' one level down: what fnE says. -/
import Derived.Test.YtiefeajappjnbaaGreatDoorGA
import Derived.Test.YtiefeajappjnbaaGreatDoorGK
namespace Go.Proofs.YtiefeajappjnbaaGreatDoor
open Go.RowKit
theorem FB.of_grown {b:Nat} {w w':World} (hg:w.grownBy w' (some b)):FB b w w' :=
 ⟨hg.os,hg.tape,hg.output,hg.size,fun k hk hn=>hg.block k hk (fun e=>by cases e;exact hn rfl)⟩
theorem su:(Tryz.prog.info? 120).map (·.size)=some 2:=by kernel_rfl
set_option maxRecDepth 100000 in
set_option maxHeartbeats 6400000 in
theorem p7 (m:Nat) (ih:vu m):Bc m:=by
 intro l a c w B N depth n pb db nb hd h0 h1 hN h4 hB hp hc hE hdb hnb hdp hnp hl hsf hA
 have IH:=Hd ih
 have HD:=Hd hd
 have HC:=Hd hc
 have HE0:=Hd hE
 have HDB:=Hd hdb
 have HNB:=Hd hnb
 have HS:=Hd hsf
 have HA:=Hd hA
 have HDP:=Hd hdp
 have HNP:=Hd hnp
 have HPL:=Hd hc.lt
 clear ih hd hc hE hdb hnb hsf hA hdp hnp
 by_cases hbig:256<l.length
 ·have HR:=Hd (tn (m:=m) (s:=n) hbig)
  go_enter Tryz.func73,Tryz.ntmps73
  go_wp2_with fail
  go_ret
  exact bX HR.out (FB.refl _ _) HC.out (fun _=>rfl)
 have H00:=Hd (A4 (m:=m) (s:=n) hbig)
 have hmm:=@run_makeMap Tryz.prog
 go_enter Tryz.func73,Tryz.ntmps73
 go_wp2_with fail
 clear hmm
 go_simp
 go_loopw [18] (fun i wr=>∃ (y:Int) (k:Nat),k≤l.length∧i=.int .i64 k∧0≤y∧y≤4096∧Hid (fnE m l n=fuE m l k y)∧Hid (FB pb w wr)∧Hid (bS wr pb y)∧Hid (bQ wr 9 4 w.heap.size k (cu ((cg l).take k)))∧Hid (w.heap.size<wr.heap.size)) (fun i _=>l.length-(intOf i).toNat)
 case atStart=>exact ⟨n,0,by omega,rfl,h0,h1,H00,Hd (FB.of_below (af w _)),Hd (HC.out.below (af w _)),Hd (bQ.made w 9 4),Hd (by rw [World.size_alloc];omega)⟩
 case round =>
  obtain ⟨w1,rfl⟩:∃ w1,w1=wr:=⟨wr,rfl⟩
  obtain ⟨y,k,hk,rfl,hy0,hy1,HFU,HF,HCC,HSET,HSZ⟩:=hrel
  by_cases hlt:k<l.length
  case neg =>
   obtain rfl:k=l.length:=by omega
   have HR:=Hd (show fnE m l n=(y,0) by rw [HFU.out,td])
   go_wp2_with fail
   go_ret
   exact bX HR.out HF.out HCC.out (fun _=>rfl)
  obtain ⟨b,p,rfl,hb,hget⟩:=HA.out.get (by intro h;simp [h] at hlt)
  obtain ⟨fs,g1,g2⟩:=hget k hlt
  have HBw:=Hd (HF.out.below hp hB)
  have HR:=Hd (g1.below HBw.out hb).range
  obtain ⟨pa,pc,es,gh⟩:=g2.has
  have f0:=gh.name
  have f1:=gh.params
  have hlf:=Hd (show (Tryz.prog.info? 72).map (·.size)=some fs.length by rw [gh.len];exact cj)
  have hlf2:=Hd (show (Tryz.prog.info? 72).map (·.size)=some fs.toArray.size by rw [List.size_toArray,gh.len];exact cj)
  have h19:=Hd (show 19=fs.toArray.size by rw [List.size_toArray,gh.len])
  have hone:=Hd (show fs.toArray.all (·.oneCell')=true from Go.all_oneCell_toArray gh.one)
  have hnm:=Hd (show (l[k]).name.size≤maxLen by have:=gh.hn;unfold maxLen;omega)
  have hpl:(l[k]).params.length≤N:=gh.hp
  have HP:=Hd gh.atPar
  have HE:=Hd gh.atBody
  have HBd:=Hd gh.body
  have FX:=Hd (aA w1 fs 72)
  have HW:=Hd (show FB pb w (w1.alloc (.cells fs.toArray 72)) from HF.out.trans (FB.of_below (af w1 _)))
  have HCW:=Hd (HCC.out.below (af w1 (.cells fs.toArray 72)))
  have HEW:=Hd (HE0.out.fb HW.out h4 hp hB)
  have HSW:=Hd (HSET.out.later (af w1 (.cells fs.toArray 72)))
  have hwr:=Hd (show w1.heap.size<(w1.alloc (.cells fs.toArray 72)).heap.size by rw [World.size_alloc];omega)
  have HBS:=Hd (lJ HS.out k hlt)
  clear gh g1 g2 hget
  obtain ⟨ib,hib⟩:∃ v,aC (l[k]).name=v:=⟨_,rfl⟩
  have HI:=Hd hib
  clear hib
  go_wp2_with (first
   | (refine wpList_load_mid rfl 72 _ rfl b (p+k * 19) rfl fs _ HR.out Tryz.underlying72 rfl hlf.out ?_)
   | (refine ak rfl 72 _ _ rfl _ fs.toArray rfl rfl hlf2.out h19.out hone.out ?_))
  refine (fP _ _ hnm.out HEW.out.kw).mono ?_
  rintro e w' ⟨rfl,rfl⟩
  rw [HI.out]
  cases ib
  case false =>
   have HZ:=Hd (show fnE m l n=(y,16) by rw [HFU.out,xE hlt HI.out])
   go_wp2_with fail
   go_ret
   exact bX HZ.out HW.out HCW.out (fun _=>rfl)
  by_cases h8:8<(l[k]).params.length
  ·have HZ:=Hd (show fnE m l n=(y,10) by rw [HFU.out,xF hlt HI.out h8])
   go_wp2_with fail
   go_ret
   exact bX HZ.out HW.out HCW.out (fun _=>rfl)
  have H8:=Hd (show ¬ 8<(l[k]).params.length from h8)
  have hmm:=@run_makeMap Tryz.prog
  go_wp2_with fail
  clear hmm
  go_simp
  go_loopw [34] (fun i w2=>∃ (k2:Nat),k2≤(l[k]).params.length∧i=.int .i64 k2∧Hid (paE (l[k]).params 0=paE (l[k]).params k2)∧Hid (Below (w1.alloc (.cells fs.toArray 72)).heap.size (w1.alloc (.cells fs.toArray 72)) w2)∧Hid (bQ w2 9 4 (w1.heap.size+1) k2 (cu ((jl (l[k]).params).take k2)))∧Hid ((w1.alloc (.cells fs.toArray 72)).heap.size<w2.heap.size)) (fun i _=>(l[k]).params.length-(intOf i).toNat)
  case atStart=>exact ⟨0,by omega,rfl,Hd rfl,Hd (af _ _),Hd (by have h:=bQ.made (w1.alloc (.cells fs.toArray 72)) 9 4;rw [World.size_alloc] at h;exact h),Hd (by simp only [World.size_alloc];omega)⟩
  case round =>
   obtain ⟨w2,rfl⟩:∃ w2,w2=wr:=⟨wr,rfl⟩
   obtain ⟨k2,hk2,rfl,HPP,HB2,HSP,HS2⟩:=hrel
   have F2:=Hd (FX.out.below HB2.out hwr.out)
   by_cases hlt2:k2<(l[k]).params.length
   case pos =>
    obtain ⟨b2,p2,rfl,hp2,hpar⟩:=HP.out.get (by intro h;simp [h] at hlt2)
    have HBv:=Hd (show Below B w w2 from (HW.out.trans (FB.of_below HB2.out)).below hp hB)
    obtain ⟨ps,hps⟩:∃ ps,ps=((l[k]).params[k2]).cells:=⟨_,rfl⟩
    have q0:ps[0]?=some (.string ((l[k]).params[k2]).name):=by rw [hps];rfl
    have hpl2:ps.length=2:=by rw [hps];rfl
    have hpone:=Hd (show ps.toArray.all (·.oneCell')=true from Go.all_oneCell_toArray (fun u hu=>by
     rw [hps] at hu
     simp only [aZ.cells,List.mem_cons,List.mem_nil_iff,or_false] at hu
     rcases hu with rfl | rfl<;>rfl))
    have HR2:=Hd (show aj w2 b2 (p2+k2 * 2) ps by rw [hps];exact (hpar k2 hlt2).2.below HBv.out hp2).range
    have hn2:=Hd (show ((l[k]).params[k2]).name.size≤maxLen by have:=(hpar k2 hlt2).1;unfold maxLen;omega)
    have hlp:=Hd (show (Tryz.prog.info? 120).map (·.size)=some ps.length by rw [hpl2];exact su)
    have hlp2:=Hd (show (Tryz.prog.info? 120).map (·.size)=some ps.toArray.size by rw [List.size_toArray,hpl2];exact su)
    have h2s:=Hd (show 2=ps.toArray.size by rw [List.size_toArray,hpl2])
    have PX:=Hd (aA w2 ps 120)
    have HBX:=Hd (ae HB2.out (af w2 (.cells ps.toArray 120)))
    have HSPX:=Hd (HSP.out.later (af w2 (.cells ps.toArray 120)))
    have HEX:=Hd ((HEW.out.then HB2.out).then (af w2 (.cells ps.toArray 120)))
    have HWX:=Hd (HW.out.trans (FB.of_below HBX.out))
    have HCX:=Hd (HCW.out.below HBX.out)
    have e0:=PX.out.get0 q0
    clear hpar hps
    obtain ⟨pn,hpn⟩:∃ s,((l[k]).params[k2]).name=s:=⟨_,rfl⟩
    have HPN:=Hd hpn
    rw [hpn] at e0 hn2 q0
    obtain ⟨v2,hv2⟩:∃ v,aC pn=v:=⟨_,rfl⟩
    have HV2:=Hd hv2
    clear hpn hv2
    go_wp2_with (first
     | (refine wpList_load_mid rfl 120 _ rfl b2 (p2+k2 * 2) rfl ps _ HR2.out Tryz.underlying120 rfl hlp.out ?_)
     | (refine ak rfl 120 _ _ rfl _ ps.toArray rfl rfl hlp2.out h2s.out hpone.out ?_))
    refine (fP pn _ hn2.out HEX.out.kw).mono ?_
    rintro e w' ⟨rfl,rfl⟩
    rw [HV2.out]
    cases v2
    case false =>
     have HZ:=Hd (show fnE m l n=(y,16) by rw [HFU.out,lp hlt HI.out H8.out (by decide) (HPP.out.trans (oc hlt2 (by rw [HPN.out];exact HV2.out)))])
     go_wp2_with fail
     go_ret
     exact bX HZ.out HWX.out HCX.out (fun h=>absurd h (by decide))
    obtain ⟨sb,hsb⟩:∃ v,decide (pn.data.toList∈cu ((jl (l[k]).params).take k2))=v:=⟨_,rfl⟩
    have HSB:=Hd hsb
    have HID:=Hd (show aC ((l[k]).params[k2]).name=true by rw [HPN.out];exact HV2.out)
    clear hsb
    cases sb
    case true =>
     have HZ:=Hd (show fnE m l n=(y,8) by rw [HFU.out,lp hlt HI.out H8.out (by decide) (HPP.out.trans (pI hlt2 HID.out (by rw [HPN.out];exact HSB.out)))])
     go_wp2_with (at_lookup;refine aY rfl _ _ 141 rfl Tryz.underlying9 Tryz.underlying4 Tryz.underlying141 (dr _) rfl HSPX.out pn rfl hn2.out true HSB.out ?_)
     go_ret
     exact bX HZ.out HWX.out HCX.out (fun h=>absurd h (by decide))
    have HPN2:=Hd (HPP.out.trans (pH hlt2 HID.out (by rw [HPN.out];exact HSB.out)))
    have HSN:=Hd (show cu ((jl (l[k]).params).take (k2+1))=cu ((jl (l[k]).params).take k2)++[pn.data.toList] by
     rw [fU (by rw [f8];exact hlt2),f9 hlt2,HPN.out])
    go_wp2_with (first
     | (at_lookup;refine aY rfl _ _ 141 rfl Tryz.underlying9 Tryz.underlying4 Tryz.underlying141 (dr _) rfl HSPX.out pn rfl hn2.out false HSB.out ?_)
     | (at_mapUpdate;refine cU rfl _ _ _ 141 rfl Tryz.underlying9 Tryz.underlying4 Tryz.underlying141 rfl HSPX.out (by unfold maxLen;omega) pn rfl rfl hn2.out ?_))
    intro w3 hset hgrow
    have HS3:=Hd hset
    have HB3:=Hd (show Below (w1.alloc (.cells fs.toArray 72)).heap.size (w1.alloc (.cells fs.toArray 72)) w3 from HBX.out.grown hgrow HBX.out.size (fun q hq=>by cases hq;rw [World.size_alloc];omega))
    have hs3:=Hd (show (w1.alloc (.cells fs.toArray 72)).heap.size<w3.heap.size from Nat.lt_of_lt_of_le HS2.out (Nat.le_trans (by rw [World.size_alloc];omega) hgrow.size))
    clear hset hgrow e0
    go_wp2
    go_roundw
    case rel=>exact ⟨k2+1,by omega,by go_num,HPN2,HB3,Hd (by rw [HSN.out];exact HS3.out),hs3⟩
    case measure=>simp [intOf];omega
   case neg =>
    have HP0:=Hd (show paE (l[k]).params 0=0 by rw [HPP.out,show k2=(l[k]).params.length by omega,lk])
    have HSS:=Hd (HSW.out.later HB2.out)
    have HW2:=Hd (HW.out.trans (FB.of_below HB2.out))
    have HC2:=Hd (HCW.out.below HB2.out)
    have e0:=F2.out.get0 f0
    obtain ⟨fn,hfn⟩:∃ s,(l[k]).name=s:=⟨_,rfl⟩
    have HFN:=Hd hfn
    rw [hfn] at e0 hnm
    obtain ⟨sb,hsb⟩:∃ v,decide (fn.data.toList∈cu ((cg l).take k))=v:=⟨_,rfl⟩
    have HSB:=Hd hsb
    clear hsb hfn
    cases sb
    case true =>
     have HZ:=Hd (show fnE m l n=(y,8) by rw [HFU.out,xD hlt HI.out H8.out HP0.out (by rw [HFN.out];exact HSB.out)])
     go_wp2_with (at_lookup;refine aY rfl _ _ 141 rfl Tryz.underlying9 Tryz.underlying4 Tryz.underlying141 (dr _) rfl HSS.out fn rfl hnm.out true HSB.out ?_)
     go_ret
     exact bX HZ.out HW2.out HC2.out (fun h=>absurd h (by decide))
    have HGO:=Hd (HFU.out.trans (xC hlt HI.out H8.out HP0.out (by rw [HFN.out];exact HSB.out)))
    have HSN:=Hd (show cu ((cg l).take (k+1))=cu ((cg l).take k)++[fn.data.toList] by
     rw [fU (by rw [cE];exact hlt),dQ hlt,HFN.out])
    have FE:=Hd (F2.out.drop2 HBd.out)
    have hle:=Hd (show (Tryz.prog.info? 34).map (·.size)=some es.length by rw [HE.out.len];exact ay)
    have HRG:=Hd (ei m (l[k]).body y hy0 hy1)
    obtain ⟨y6,z6,h6⟩:∃ a b,lkE m (l[k]).body y=(a,b):=⟨_,_,rfl⟩
    rw [h6] at HGO HRG
    have H6:=Hd h6
    clear h6
    have hw2l:=Hd (show w1.heap.size<w2.heap.size from Nat.lt_of_lt_of_le hwr.out HB2.out.size)
    go_wp2_with (first
     | (at_lookup;refine aY rfl _ _ 141 rfl Tryz.underlying9 Tryz.underlying4 Tryz.underlying141 (dr _) rfl HSS.out fn rfl hnm.out false HSB.out ?_)
     | (at_mapUpdate;refine cU rfl _ _ _ 141 rfl Tryz.underlying9 Tryz.underlying4 Tryz.underlying141 rfl HSS.out (by unfold maxLen;omega) fn rfl rfl hnm.out ?_))
    intro w3 hset hgrow
    have HS3:=Hd hset
    have HF3:=Hd (HW2.out.grown hgrow (Nat.le_refl _))
    have HC3:=Hd (HC2.out.grown hgrow (Nat.ne_of_lt HPL.out))
    have HR3:=Hd (show aj w3 w1.heap.size 2 es from (FB.of_grown hgrow).cells FE.out hw2l.out (Nat.ne_of_gt HSZ.out)).range
    have hs3:=Hd (Nat.lt_of_lt_of_le HSZ.out (Nat.le_trans (Nat.le_of_lt hw2l.out) hgrow.size))
    clear hset hgrow e0
    go_wp2_with (refine wpList_load_mid rfl 34 _ rfl w1.heap.size 2 rfl es _ HR3.out Tryz.underlying34 rfl hle.out ?_)
    have hb3:Below B w w3:=HF3.out.below hp hB
    refine (CO m IH.out (l[k]).body w3 B N es depth y pb db nb HD.out hy0 hy1 hN h4 (Nat.le_trans hB HF3.out.size) hp HC3.out (HE0.out.fb HF3.out h4 hp hB) ((HF3.out.cell (j7 HDB.out) HDP.out).trans HDB.out) ((HF3.out.cell (j7 HNB.out) HNP.out).trans HNB.out) HBS.out (HE.out.below hb3)).mono ?_
    clear hb3
    rintro e6 w6 ⟨rfl,hf6,u6,hu6,hz6⟩
    rw [H6.out] at hz6 ⊢
    have HF6:=Hd (HF3.out.trans hf6)
    have HU6:=Hd hu6
    have HZ6:=Hd hz6
    have HS6:=Hd (HS3.out.fb hf6 (Nat.ne_of_gt HPL.out))
    have hs6:=Hd (Nat.lt_of_lt_of_le hs3.out hf6.size)
    clear hf6 hu6 hz6
    by_cases hz:z6=0
    ·subst hz
     have HZ:=Hd (show fnE m l n=fuE m l (k+1) y6 by rw [HGO.out,if_neg (by simp)])
     have HU7:=Hd (show bS w6 pb y6 by have:=HU6.out;rwa [HZ6.out rfl] at this)
     go_wp2_with fail
     go_roundw
     case rel=>exact ⟨y6,k+1,by omega,by go_num,HRG.out.1,HRG.out.2,HZ,HF6,HU7,Hd (by rw [HSN.out];exact HS6.out),hs6⟩
     case measure=>simp [intOf];omega
    ·have HZ:=Hd (show fnE m l n=(y6,z6) by rw [HGO.out,if_pos hz])
     have hz1:(z6 != 0)=true:=by simpa using hz
     have hz2:(z6==0)=false:=by simpa using hz
     go_wp2_with fail
     go_ret
     exact bX HZ.out HF6.out HU6.out HZ6.out
end Go.Proofs.YtiefeajappjnbaaGreatDoor

/- The program's check of expressions (qparse.visit, qparse.Check): it returns what lkE, eH say. -/
namespace Go.Proofs.YtiefeajappjnbaaGreatDoor
open Go.RowKit
abbrev nQ (w:World) (cs:List Value) (d:Nat) (pb:Nat):World:=((w.alloc (.cells cs.toArray 34)).alloc (.cells #[.int .i64 d] 3)).alloc (.cells #[.pointer (some ⟨pb,0,none⟩)] 110)
theorem fL (w:World) (cs:List Value) (d pb:Nat):Below w.heap.size w (nQ w cs d pb):=ae (ae (af w _) (af _ _)) (af _ _)
theorem rX (w:World) (cs:List Value) (d pb:Nat):(nQ w cs d pb).heap.size=w.heap.size+1+1+1:=by simp only [nQ,World.size_alloc]
set_option maxRecDepth 100000 in
set_option maxHeartbeats 6400000 in
theorem yV:vu 0:=by
 intro x w B N cs depth n pb hd h0 h1 hN h4 hB hp hc hE hs hx
 have hd':48<depth:=by omega
 have hd2:depth≤49:=by omega
 have HR:=Hd (show lkE 0 x n=(n,9) from rfl)
 have hcb:=hc.below (fL w cs depth pb)
 have HC:=Hd (hcb.set (n+1))
 have HF:=Hd ((FB.of_below (pb:=pb) (fL w cs depth pb)).trans (FB.setCell _ 0 (.int .i64 (n+1))))
 have hplt:=hc.lt
 have k0:=hc.cell
 have k1:=hc.frozen
 have k2:=hcb.cell
 have k3:=hcb.frozen
 clear hx hc hE hs hd hcb
 go_enter Tryz.func55,Tryz.ntmps55
 go_wp2_with fail
 go_ret
 exact bX HR.out HF.out HC.out (fun h=>absurd h (by decide))
structure VSt (w u:World) (cs:List Value) (depth pb:Nat):Prop where
 row:aj u w.heap.size 0 cs
 dep:u.cell? ⟨w.heap.size+1,0,none⟩=some (.int .i64 depth)
 ptr:u.cell? ⟨w.heap.size+1+1,0,none⟩=some (.pointer (some ⟨pb,0,none⟩))
 fb:FB pb w u
 size:w.heap.size+1+1<u.heap.size
theorem VSt.go {w u u':World} {cs:List Value} {depth pb:Nat} (h:VSt w u cs depth pb) (hp:pb<w.heap.size) (hf:FB pb u u'):VSt w u' cs depth pb :=
 ⟨hf.cells h.row (by have:=h.size;omega) (by omega),(hf.cell (by have:=h.size;omega) (by omega)).trans h.dep,(hf.cell h.size (by omega)).trans h.ptr,h.fb.trans hf,Nat.lt_of_lt_of_le h.size hf.size⟩
theorem VSt.start (w:World) (cs:List Value) (depth pb:Nat):VSt w (nQ w cs depth pb) cs depth pb:=by
 have b1:Below (w.alloc (.cells cs.toArray 34)).heap.size (w.alloc (.cells cs.toArray 34)) (nQ w cs depth pb):=ae (af _ _) (af _ _)
 have b2:Below ((w.alloc (.cells cs.toArray 34)).alloc (.cells #[.int .i64 depth] 3)).heap.size ((w.alloc (.cells cs.toArray 34)).alloc (.cells #[.int .i64 depth] 3)) (nQ w cs depth pb):=af _ _
 refine ⟨(aA w cs 34).then b1 (by rw [World.size_alloc];omega),?_,?_,FB.of_below (fL w cs depth pb),by rw [rX];omega⟩
 ·have h:=(aA (w.alloc (.cells cs.toArray 34)) [.int .i64 depth] 3).then b2 (by simp only [World.size_alloc];omega)
  have h2:=h.get0 (j:=0) (v:=.int .i64 depth) rfl
  rwa [World.size_alloc] at h2
 ·have h:=aA ((w.alloc (.cells cs.toArray 34)).alloc (.cells #[.int .i64 depth] 3)) [.pointer (some ⟨pb,0,none⟩)] 110
  have h2:=h.get0 (j:=0) (v:=.pointer (some ⟨pb,0,none⟩)) rfl
  rwa [World.size_alloc,World.size_alloc] at h2
set_option maxRecDepth 100000 in
set_option maxHeartbeats 6400000 in
theorem yU (m:Nat) (ih:vu m) (ihf:Bc m):vu (m+1):=by
 intro x w B N cs depth n pb hd h0 h1 hN h4 hB hp hc hE hs hx
 have IH:=Hd ih
 have IF:=Hd ihf
 have HD:=Hd hd
 have HX:=Hd hx
 have HS:=Hd hs
 have hd':depth≤48:=by omega
 have hl:=Hd (show (Tryz.prog.info? 34).map (·.size)=some cs.length by rw [hx.len];exact ay)
 have HE0:=Hd hE
 have HPL:=Hd hc.lt
 have hcb:=hc.below (fL w cs depth pb)
 have HC4:=Hd (hcb.set (n+1))
 have S4:=Hd ((VSt.start w cs depth pb).go hc.lt (FB.setCell _ 0 (.int .i64 (n+1))))
 have hplt:=hc.lt
 have k0:=hc.cell
 have k1:=hc.frozen
 have k2:=hcb.cell
 have k3:=hcb.frozen
 obtain ⟨aa,fa,ac,fc,vs,hh⟩:=hx.has
 have c15:=hh.args
 have c16:=hh.funcs
 have hal:x.args.length≤N:=hh.own.2.2.1
 have hfl:x.funcs.length≤N:=hh.own.2.2.2
 have hlv:=Hd (show (Tryz.prog.info? 30).map (·.size)=some vs.length by rw [hh.atVal.len];exact bM)
 have HA:=Hd hh.atArgs
 have HU:=Hd hh.atFuncs
 have HV:=Hd hh.atVal
 have HVR:=Hd (show ∀ (wr:World) (b o:Nat),aj wr b o cs→aj wr b (o+2) vs from fun wr b o h=>hh.valRange h)
 clear hh hx ih ihf hd hc hE hs hcb
 by_cases hs:4096≤n
 ·have HR:=Hd (wM (m:=m) (x:=x) hs)
  have hs2:4096<n+1:=by omega
  go_enter Tryz.func55,Tryz.ntmps55
  go_wp2_with fail
  go_ret
  exact bX HR.out S4.out.fb HC4.out (fun h=>absurd h (by decide))
 have hs:n<4096:=by omega
 have HN:=Hd hs
 have hn1:n+1≤4096:=by omega
 obtain ⟨fb,hfb⟩:∃ b,bh x=b:=⟨_,rfl⟩
 have HFB:=Hd hfb
 obtain ⟨rb,hrb⟩:∃ b,rgB x=b:=⟨_,rfl⟩
 have HRB:=Hd hrb
 clear hfb hrb
 have BW:=Hd (show ∀ u:World,FB pb w u→Below B w u from fun u hu=>hu.below hp hB)
 have BS:=Hd (show ∀ u:World,FB pb w u→B≤u.heap.size from fun u hu=>Nat.le_trans hB hu.size)
 have EW:=Hd (show ∀ u:World,FB pb w u→Env u from fun u hu=>HE0.out.fb hu h4 hp hB)
 go_enter Tryz.func55,Tryz.ntmps55
 go_wp2_with (refine wpList_load_mid rfl 34 _ rfl w.heap.size 0 rfl cs _ S4.out.row.range Tryz.underlying34 rfl hl.out ?_)
 refine (zk x _ B N cs hN (BS.out _ S4.out.fb) (HX.out.below (BW.out _ S4.out.fb)) (fi.1 HS.out).1).mono ?_
 rintro e w5 ⟨rfl,hb5⟩
 have S5:=Hd (S4.out.go HPL.out (FB.of_below hb5))
 have HC5:=Hd (HC4.out.below hb5)
 rw [HFB.out]
 clear hb5 k0 k1 k2 k3
 cases fb
 case false =>
  have HR:=Hd (AO (m:=m) HN.out HFB.out)
  go_wp2_with fail
  go_ret
  exact bX HR.out S5.out.fb HC5.out (fun h=>absurd h (by decide))
 have V5:=Hd (HVR.out _ _ _ S5.out.row).range
 go_wp2_with (refine wpList_load_mid rfl 30 _ rfl w.heap.size (0+2) rfl vs _ V5.out Tryz.underlying30 rfl hlv.out ?_)
 refine (nW x.val _ B N vs (Nat.le_trans hN (by omega)) (BS.out _ S5.out.fb) (HV.out.below (BW.out _ S5.out.fb))).mono ?_
 rintro e w6 ⟨rfl,hb6⟩
 have S6:=Hd (S5.out.go HPL.out (FB.of_below hb6))
 have HC6:=Hd (HC5.out.below hb6)
 clear hb6
 obtain ⟨k2,hk2⟩:∃ k,dJ x.val=k:=⟨_,rfl⟩
 have HK2:=Hd hk2
 rw [hk2]
 clear hk2
 by_cases hk0:k2=0
 case neg =>
  have HR:=Hd (show lkE (m+1) x n=(n+1,k2) by
   have h3:x.op=3:=by
    by_cases h3:x.op=3
    ·exact h3
    ·exact absurd (HK2.out.symm.trans (xH HFB.out h3)) hk0
   rw [sQ HN.out HFB.out h3 (by rw [HK2.out];exact hk0),HK2.out])
  have hk1:(k2 != 0)=true:=by simpa using hk0
  have hk3:(k2==0)=false:=by simpa using hk0
  go_wp2_with fail
  go_ret
  exact bX HR.out S6.out.fb HC6.out (fun h=>absurd h hk0)
 subst hk0
 have HNC:=Hd (show x.op=3→dJ x.val=0 from fun _=>HK2.out)
 have HOP:=Hd (show 1≤x.op∧x.op≤30 by
  obtain ⟨h1,h2,_⟩:=of_decide_eq_true HFB.out
  exact ⟨h1,by omega⟩)
 go_wp2_with (refine wpList_load_mid rfl 34 _ rfl w.heap.size 0 rfl cs _ S6.out.row.range Tryz.underlying34 rfl hl.out ?_)
 refine (zw x _ B N cs HOP.out hN (EW.out _ S6.out.fb) (HX.out.below (BW.out _ S6.out.fb))).mono ?_
 rintro e w7 ⟨rfl,hb7⟩
 have S7:=Hd (S6.out.go HPL.out (FB.of_below hb7))
 have HC7:=Hd (HC6.out.below hb7)
 rw [HRB.out]
 clear hb7
 cases rb
 case false =>
  have HR:=Hd (wL (m:=m) HN.out HFB.out HNC.out HRB.out)
  go_wp2_with fail
  go_ret
  exact bX HR.out S7.out.fb HC7.out (fun h=>absurd h (by decide))
 have d16:=S7.out.row.get0 c16
 go_wp2_with fail
 refine (IF.out x.funcs fa fc _ B N depth (n+1) pb (w.heap.size+1) (w.heap.size+1+1) (by have:=HD.out;omega) (by omega) (by omega) hN h4 (BS.out _ S7.out.fb) hp HC7.out (EW.out _ S7.out.fb) S7.out.dep S7.out.ptr (by omega) (by omega) hfl (fi.1 HS.out).2.2 (av.below (BW.out _ S7.out.fb) _ HU.out)).mono ?_
 rintro e w8 ⟨rfl,hf8,u8,hu8,hz8⟩
 have S8:=Hd (S7.out.go HPL.out hf8)
 have HC8:=Hd hu8
 have HRG:=Hd (nF m x.funcs (n+1) (by omega) (by omega))
 have HG0:=rp (m:=m) HN.out HFB.out HNC.out HRB.out
 obtain ⟨n4,f4,h4f⟩:∃ a b,fnE m x.funcs (n+1)=(a,b):=⟨_,_,rfl⟩
 rw [h4f] at HG0 HRG hz8 ⊢
 have HGO:=Hd HG0
 have HZ8:=Hd hz8
 clear h4f HG0 hf8 hu8 hz8 d16
 by_cases hf4:f4=0
 case neg =>
  have HR:=Hd (show lkE (m+1) x n=(n4,f4) by rw [HGO.out,if_pos hf4])
  have hk1:(f4 != 0)=true:=by simpa using hf4
  have hk2:(f4==0)=false:=by simpa using hf4
  go_wp2_with fail
  go_ret
  exact bX HR.out S8.out.fb HC8.out HZ8.out
 subst hf4
 have HKS:=Hd (show lkE (m+1) x n=ksE m x.args n4 by rw [HGO.out,if_neg (by simp)])
 have HC9:=Hd (show bS w8 pb n4 by have:=HC8.out;rwa [HZ8.out rfl] at this)
 have HN4:=Hd (show 0≤n4∧n4≤4096 from HRG.out)
 have d15:=S8.out.row.get0 c15
 go_wp2_with fail
 go_simp
 go_loopw [45] (fun i wr=>∃ (y:Int) (k:Nat),k≤x.args.length∧i=.int .i64 k∧0≤y∧y≤4096∧Hid (lkE (m+1) x n=ksE m (x.args.drop k) y)∧Hid (VSt w wr cs depth pb)∧Hid (bS wr pb y)) (fun i _=>x.args.length-(intOf i).toNat)
 case atStart=>exact ⟨n4,0,by omega,rfl,HN4.out.1,HN4.out.2,HKS,S8,HC9⟩
 case round =>
  obtain ⟨w1,rfl⟩:∃ w1,w1=wr:=⟨wr,rfl⟩
  clear d15 HC9 HC8 S8 HN4 HKS
  obtain ⟨y,k,hk,rfl,hy0,hy1,HI,S1,HC1⟩:=hrel
  by_cases hlt:k<x.args.length
  case neg =>
   have HR:=Hd (show lkE (m+1) x n=(y,0) by rw [HI.out,List.drop_eq_nil_of_le (by omega)];rfl)
   go_wp2_with fail
   go_ret
   exact bX HR.out S1.out.fb HC1.out (fun _=>rfl)
  have HST:=Hd (pU m hlt y)
  have HKR:=Hd (nB m x.args[k] y hy0 hy1)
  obtain ⟨b,p,rfl,hb,hget⟩:=HA.out.get (by intro h;simp [h] at hlt)
  obtain ⟨es,g1,g2⟩:=hget k hlt
  have HBw:=Hd (BW.out _ S1.out.fb)
  have HR:=Hd (g1.below HBw.out hb).range
  have hle:=Hd (show (Tryz.prog.info? 34).map (·.size)=some es.length by rw [g2.len];exact ay)
  have hle2:=Hd (show (Tryz.prog.info? 34).map (·.size)=some es.toArray.size by rw [List.size_toArray,g2.len];exact ay)
  have h17:=Hd (show 17=es.toArray.size by rw [List.size_toArray,g2.len])
  have hone:=Hd (show es.toArray.all (·.oneCell')=true from Go.all_oneCell_toArray g2.one)
  have FX:=Hd (aA w1 es 34)
  have S2:=Hd (S1.out.go HPL.out (FB.of_below (af w1 (.cells es.toArray 34))))
  have HC2:=Hd (HC1.out.below (af w1 (.cells es.toArray 34)))
  have HEs:=Hd (g2.below (BW.out _ S2.out.fb))
  have HSk:=Hd (lI (fi.1 HS.out).2.1 k hlt)
  obtain ⟨_,_,_,_,_,gh⟩:=g2.has
  have e0:=FX.out.get0 gh.op
  have d1:=S2.out.dep
  have d2:=S2.out.ptr
  clear g1 g2 gh hget
  by_cases h30:x.args[k].op=30
  ·rw [h30] at e0
   have HK:=Hd (show kdE m x.args[k] y=(if m=0 then (y,9) else if 4096≤y then (y,10) else (y+1,0)) by unfold kdE gN;rw [if_pos h30])
   have q2:=HC2.out.cell
   have q3:=HC2.out.frozen
   have S3:=Hd (S2.out.go HPL.out (FB.setCell _ 0 (.int .i64 (y+1))))
   have HC3:=Hd (HC2.out.set (y+1))
   clear h30
   by_cases hm:m=0
   ·have hd3:48<(depth:Int)+1:=by have:=HD.out;omega
    have HR2:=Hd (show lkE (m+1) x n=(y,9) by rw [HI.out,HST.out,HK.out,if_pos hm,if_pos (show (9:Int)≠0 by decide)])
    go_wp2_with (first
     | (refine wpList_load_mid rfl 34 _ rfl b (p+k * 17) rfl es _ HR.out Tryz.underlying34 rfl hle.out ?_)
     | (refine ak rfl 34 _ _ rfl _ es.toArray rfl rfl hle2.out h17.out hone.out ?_))
    go_ret
    exact bX HR2.out S3.out.fb HC3.out (fun h=>absurd h (by decide))
   have hd3:(depth:Int)+1≤48:=by have:=HD.out;omega
   by_cases hy4:4096≤y
   ·have hy5:4096<y+1:=by omega
    have HR2:=Hd (show lkE (m+1) x n=(y,10) by rw [HI.out,HST.out,HK.out,if_neg hm,if_pos hy4,if_pos (show (10:Int)≠0 by decide)])
    go_wp2_with (first
     | (refine wpList_load_mid rfl 34 _ rfl b (p+k * 17) rfl es _ HR.out Tryz.underlying34 rfl hle.out ?_)
     | (refine ak rfl 34 _ _ rfl _ es.toArray rfl rfl hle2.out h17.out hone.out ?_))
    go_ret
    exact bX HR2.out S3.out.fb HC3.out (fun h=>absurd h (by decide))
   have hy5:y+1≤4096:=by omega
   have HS6:=Hd (show lkE (m+1) x n=ksE m (x.args.drop (k+1)) (y+1) by rw [HI.out,HST.out,HK.out,if_neg hm,if_neg hy4,if_neg (by simp)])
   go_wp2_with (first
    | (refine wpList_load_mid rfl 34 _ rfl b (p+k * 17) rfl es _ HR.out Tryz.underlying34 rfl hle.out ?_)
    | (refine ak rfl 34 _ _ rfl _ es.toArray rfl rfl hle2.out h17.out hone.out ?_))
   go_roundw
   case rel=>exact ⟨y+1,k+1,by omega,by go_num,by omega,by omega,HS6,S3,HC3⟩
   case measure=>simp [intOf];omega
  ·have h30':(x.args[k].op==30)=false:=by simpa using h30
   have h30n:(x.args[k].op != 30)=true:=by simpa using h30
   obtain ⟨y6,z6,h6⟩:∃ a b,lkE m x.args[k] y=(a,b):=⟨_,_,rfl⟩
   have H6:=Hd h6
   have HK:=Hd (show kdE m x.args[k] y=(y6,z6) by unfold kdE gN;rw [if_neg h30];exact h6)
   have FR:=Hd FX.out.range
   clear h30 h6
   go_wp2_with (first
    | (refine wpList_load_mid rfl 34 _ rfl b (p+k * 17) rfl es _ HR.out Tryz.underlying34 rfl hle.out ?_)
    | (refine ak rfl 34 _ _ rfl _ es.toArray rfl rfl hle2.out h17.out hone.out ?_)
    | (refine wpList_load_mid rfl 34 _ rfl w1.heap.size 0 rfl es _ FR.out Tryz.underlying34 rfl hle.out ?_))
   refine (IH.out x.args[k] _ B N es (depth+1) y pb (by have:=HD.out;omega) hy0 hy1 hN h4 (BS.out _ S2.out.fb) hp HC2.out (EW.out _ S2.out.fb) HSk.out HEs.out).mono ?_
   rintro e1 w6 ⟨rfl,hf6,u6,hu6,hz6⟩
   rw [H6.out] at hz6 ⊢
   have S6:=Hd (S2.out.go HPL.out hf6)
   have HU6:=Hd hu6
   have HZ6:=Hd hz6
   clear hf6 hu6 hz6 e0 d1 d2
   by_cases hz:z6=0
   ·subst hz
    have HS6:=Hd (show lkE (m+1) x n=ksE m (x.args.drop (k+1)) y6 by rw [HI.out,HST.out,HK.out,if_neg (by simp)])
    have HC6:=Hd (show bS w6 pb y6 by have:=HU6.out;rwa [HZ6.out rfl] at this)
    have HRR:=HKR.out
    rw [HK.out] at HRR
    have hr1:0≤y6:=HRR.1
    have hr2:y6≤4096:=HRR.2
    clear HRR
    go_wp2_with fail
    go_roundw
    case rel=>exact ⟨y6,k+1,by omega,by go_num,hr1,hr2,HS6,S6,HC6⟩
    case measure=>simp [intOf];omega
   ·have HS6:=Hd (show lkE (m+1) x n=(y6,z6) by rw [HI.out,HST.out,HK.out,if_pos hz])
    have hz1:(z6 != 0)=true:=by simpa using hz
    have hz2:(z6==0)=false:=by simpa using hz
    go_wp2_with fail
    go_ret
    exact bX HS6.out S6.out.fb HU6.out HZ6.out
theorem kg:∀ m,vu m
 | 0=>yV
 | m+1=>yU m (kg m) (p7 m (kg m))
set_option maxRecDepth 100000 in
theorem tJ (x:ag) (w:World) (B N:Nat) (cs:List Value) (hN:N≤1073741824) (h4:4≤B) (hB:B≤w.heap.size) (hE:Env w) (hs:cc x) (hx:ag.At w B N x cs) :
 Calls Tryz.prog 21 #[.agg cs.toArray] w (gK (eH x) w):=by
 have HX:=Hd hx
 have HS:=Hd hs
 have hl:=Hd (show (Tryz.prog.info? 34).map (·.size)=some cs.length by rw [hx.len];exact ay)
 have H0:=Hd (show Below w.heap.size w (w.alloc (.cells cs.toArray 34)) from af w _)
 have H1:=Hd (ae H0.out (af (w.alloc (.cells cs.toArray 34)) (.cells #[.int .i64 0] 3)))
 have HZ:=Hd (show ((w.alloc (.cells cs.toArray 34)).alloc (.cells #[.int .i64 0] 3)).heap.size=w.heap.size+1+1 by rw [World.size_alloc,World.size_alloc])
 have HC:=Hd (show bS ((w.alloc (.cells cs.toArray 34)).alloc (.cells #[.int .i64 0] 3)) (w.heap.size+1) 0 from by
  have h:=heap_alloc_new (w.alloc (.cells cs.toArray 34)) (.cells #[.int .i64 0] 3)
  rw [World.size_alloc] at h
  exact h)
 have R0:=Hd ((aA w cs 34).then (af (w.alloc (.cells cs.toArray 34)) (.cells #[.int .i64 0] 3)) (by rw [World.size_alloc];omega))
 have HE1:=Hd (hE.then H1.out)
 obtain ⟨y,z,hxy⟩:∃ y z,lkE 48 x 0=(y,z):=⟨_,_,rfl⟩
 have HXY:=Hd hxy
 have HCK:=Hd (show eH x=z by unfold eH;rw [hxy])
 clear hx hxy hE hs
 go_enter Tryz.func21,Tryz.ntmps21
 go_wp2_with (refine wpList_load_mid rfl 34 _ rfl w.heap.size 0 rfl cs _ R0.out.range Tryz.underlying34 rfl hl.out ?_)
 refine (kg 48 x _ B N cs 1 0 (w.heap.size+1) (by omega) (by omega) (by omega) hN h4 (by rw [HZ.out];omega) (by omega) HC.out HE1.out HS.out (HX.out.below (H1.out.mono hB))).mono ?_
 rintro e w1 ⟨rfl,hf,_⟩
 rw [HXY.out]
 have H2:=Hd (show Below w.heap.size w w1 from ⟨hf.os.trans H1.out.os,hf.tape.trans H1.out.tape,hf.output.trans H1.out.output,Nat.le_trans H1.out.size hf.size,fun k hk=>(hf.block k (Nat.lt_of_lt_of_le hk H1.out.size) (by omega)).trans (H1.out.block k hk)⟩)
 clear hf
 go_wp2_with fail
 go_ret
 exact ⟨aP (by rw [HCK.out]),H2.out⟩
theorem mi {x:ag} (h:eH x=0):dpE 47 x∧ndE 47 x≤4096:=by
 have hr:=(ei 48 x 0 (by decide) (by decide)).2
 obtain ⟨h1,h2⟩:=eX aC rgB 47 x 0 (lkE 48 x 0).1 (Prod.ext rfl h)
 refine ⟨h1,?_⟩
 omega
end Go.Proofs.YtiefeajappjnbaaGreatDoor
