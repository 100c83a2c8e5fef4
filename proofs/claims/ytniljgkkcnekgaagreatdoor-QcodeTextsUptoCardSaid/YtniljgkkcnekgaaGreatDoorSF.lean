/- value.arranged: sorts a value in its own place (printed by genarr.py). -/
import Derived.Test.YtniljgkkcnekgaaGreatDoorProg
import Derived.Test.YtniljgkkcnekgaaGreatDoorGA
import Derived.Test.YtniljgkkcnekgaaGreatDoorGB
import Derived.Test.YtniljgkkcnekgaaGreatDoorGC
import Derived.Test.YtniljgkkcnekgaaGreatDoorSA
import Derived.Test.YtniljgkkcnekgaaGreatDoorSD
import Derived.Test.YtniljgkkcnekgaaGreatDoorTre41
import Derived.Test.YtniljgkkcnekgaaGreatDoorCot41
import Derived.Test.YtniljgkkcnekgaaGreatDoorSE
namespace Go.Proofs.YtniljgkkcnekgaaGreatDoor
namespace Stb
end Stb
open Go.RowKit Stb
def ArrP (m:Nat):Prop:=∀ (N:Nat) (v:ValD) (w:World) (S E:Nat) (cs:List Value),okC m v→N≤4294967296→TreeAt N m w S E v cs→Calls Tryz.prog 92 #[.agg cs.toArray] w (ArrR N S E (sortD m v) w)
set_option maxRecDepth 100000 in
set_option maxHeartbeats 6400000 in
theorem arr_step (m:Nat) (IH0:ArrP m):ArrP (m+1):=by
 intro N v w S E cs hok hN ht
 have IH:=Hd IH0
 obtain ⟨ya,la,va,yc,lc,vc,m1,m2,hcs,hown,hbd,hy,⟨g,f,tl,st,en,hl⟩,⟨gF,fF,tlF,stF,enF,hfl⟩⟩:=ht.parts
 have HOK:=Hd hok
 have HOWN:=Hd hown
 have HY:=Hd hy
 have HL:=Hd hl
 have HFL:=Hd hfl
 have HBD:=Hd hbd
 have HCS:=Hd hcs
 have hll:v.list.length≤N:=hown.2.2.2.2.2.2.2.2.2.1
 have hfll:v.fields.length≤N:=hown.2.2.2.2.2.2.2.2.2.2
 have hC11:cs[11]?=some (.slice la v.list.length lc):=by rw [hcs];rfl
 have hC12:cs[12]?=some (.slice va v.fields.length vc):=by rw [hcs];rfl
 have hC13:cs.length=13:=by rw [hcs];rfl
 have hone:∀ u∈cs,u.oneCell'=true:=ht.at.oneCell
 have HC11:=Hd hC11
 have HC12:=Hd hC12
 have HC13:=Hd hC13
 have HONE:=Hd hone
 have c11:((w.alloc (.cells cs.toArray 39)).alloc (.cells #[.int .i64 0,.bool false,.bool false,.string ⟨#[]⟩,.int .i64 0,.int .i64 0,.int .i64 0,.int .i64 0,.int .i64 0,.string ⟨#[]⟩,.slice none 0 0,.slice none 0 0,.slice none 0 0] 39)).cell? ⟨w.heap.size,11,none⟩=some (.slice la v.list.length lc):=((RowT.new w 39 cs).alloc _).cell hC11
 have hm2:m2≤w.heap.size:=by omega
 have HM2:=Hd hm2
 have H0:=Hd (Lo1.start (m:=m) (cs:=cs) hl)
 clear IH0 hok hown hy hl hfl hbd hcs ht hC11 hC12 hC13 hone hm2
 go_enter Tryz.func92,Tryz.ntmps92
 go_wp2_with fail
 clear c11
 obtain ⟨W0,hW0⟩:∃ W0,W0=(w.alloc (.cells cs.toArray 39)).alloc (.cells zeroV 39):=⟨_,rfl⟩
 rw [← hW0] at H0
 rw [show #[.int .i64 0,.bool false,.bool false,.string ⟨#[]⟩,.int .i64 0,.int .i64 0,.int .i64 0,.int .i64 0,.int .i64 0,.string ⟨#[]⟩,.slice none 0 0,.slice none 0 0,.slice none 0 0]=zeroV from rfl,← hW0]
 clear hW0
 go_simp
 go_loopw [8] (fun i wr=>∃ (k:Nat) (F:Nat→List Value),k≤v.list.length∧i=.int .i64 k∧Hid (Lo1 N m v w wr cs g f tl st en k F)) (fun i _=>v.list.length-(intOf i).toNat)
 case atStart=>exact ⟨0,f,by omega,rfl,H0⟩
 case round =>
  clear H0
  obtain ⟨w4,rfl⟩:∃ w4,w4=wr:=⟨wr,rfl⟩
  obtain ⟨k,F,hk,rfl,H1⟩:=hrel
  by_cases hlt:k<v.list.length
  ·have hn:v.list≠[]:=fun e=>by rw [e] at hlt;simp at hlt
   obtain ⟨hla,hg1,hg2,_,hlie,_⟩:=HL.out hn
   subst hla
   have HST:=Hd (hlie k hlt)
   have HKID:=Hd (Lo1.kid HL.out HM2.out H1.out hlt)
   have hl1:=Hd (show (Tryz.prog.info? 39).map (·.size)=some (F k).length by rw [HKID.out.len];exact sizeV)
   have HOKK:=Hd (HOK.out.2.2.2.2.2.1 v.list[k] (List.getElem_mem hlt))
   have HR:=Hd (H1.out.rows hn)
   clear hn hlie
   go_wp2_with fail
   have hHeld:RowT 39 w4.drew w.heap.size cs∧RowsV w4.drew g v.list.length F tl:=⟨H1.out.box,HR.out.row,HR.out.len,HR.out.one⟩
   refine wp_region_T (S:=fun q=>RowT 39 q w.heap.size cs∧RowsV q g v.list.length F tl) 10 (by kernel_rfl) ?_
   refine wpAnyT_take (i:=0) (v:=.pointer (some ⟨w.heap.size,11,none⟩)) [10,9,1] 11 rfl rfl (by kernel_rfl) (by kernel_rfl) (fun _ _ _ h=>h) (Or.inl ⟨by kernel_rfl,fun u hu=>by go_simp⟩) hHeld ?_
   simp only [sq1,sq0]
   refine wpAnyT_take (i:=1) (v:=.slice (some ⟨g,0,none⟩) v.list.length lc) [10,9] 12 rfl rfl (by kernel_rfl) (by kernel_rfl) (fun _ _ _ h=>h) (Or.inl ⟨by kernel_rfl,fun u hu=>by have hc:=hu.1.cell HC11.out;go_simp⟩) hHeld ?_
   simp only [sq1,sq0]
   refine wpAnyT_take (i:=2) (v:=.int .i64 k) [10,9] 13 rfl rfl (by kernel_rfl) (by kernel_rfl) (fun _ _ _ h=>h) (Or.inl ⟨by kernel_rfl,fun u hu=>by go_simp⟩) hHeld ?_
   simp only [sq1,sq0]
   refine wpAnyT_take (i:=3) (v:=.pointer (some ⟨w.heap.size,11,none⟩)) [10,8,7,6,4] 14 rfl rfl (by kernel_rfl) (by kernel_rfl) (fun _ _ _ h=>h) (Or.inl ⟨by kernel_rfl,fun u hu=>by go_simp⟩) hHeld ?_
   simp only [sq1,sq0]
   refine wpAnyT_take (i:=4) (v:=.slice (some ⟨g,0,none⟩) v.list.length lc) [10,8,7,6] 15 rfl rfl (by kernel_rfl) (by kernel_rfl) (fun _ _ _ h=>h) (Or.inl ⟨by kernel_rfl,fun u hu=>by have hc:=hu.1.cell HC11.out;go_simp⟩) hHeld ?_
   simp only [sq1,sq0]
   refine wpAnyT_take (i:=5) (v:=.int .i64 k) [10,8,7,6] 16 rfl rfl (by kernel_rfl) (by kernel_rfl) (fun _ _ _ h=>h) (Or.inl ⟨by kernel_rfl,fun u hu=>by go_simp⟩) hHeld ?_
   simp only [sq1,sq0]
   refine wpAnyT_take (i:=6) (v:=.pointer (some ⟨g,k * 13,none⟩)) [10,8,7] 17 rfl rfl (by kernel_rfl) (by kernel_rfl) (fun _ _ _ h=>h) (Or.inl ⟨by kernel_rfl,fun u hu=>by go_simp⟩) hHeld ?_
   simp only [sq1,sq0]
   refine wpAnyT_take (i:=7) (v:=.agg (F k).toArray) [10,8] 18 rfl rfl (by kernel_rfl) (by kernel_rfl) (fun _ _ _ h=>h) ?_ hHeld ?_
   ·exact yieldsIf_load_mid (by kernel_rfl) 39 _ rfl g (k * 13) (by kernel_rfl) (F k) _ (fun u hu=>hu.2.range hlt) Tryz.underlying39 rfl hl1.out
   simp only [sq1,sq0]
   refine wpAnyT_one (i:=8) (by kernel_rfl) rfl (fun K hK=>?_)
   rw [if_pos (by rfl)]
   go_simp
   refine (IH.out N _ _ (st k) (en k) (F k) HOKK.out hN (HKID.out.step (c:=w4.drew) ⟨Nat.le_refl _,fun _ _ _=>rfl⟩)).mono ?_
   rintro e w5 ⟨cs2,rfl,hsafe,hfr⟩
   have HS0:=Hd (show KeptU w4.heap.size (st k) (en k) w5 (fun c=>ValD.At c c.heap.size N (sortD m v.list[k]) cs2) from hsafe)
   have HFR:=Hd (show AptF (st k) (en k) w4 w5 from ⟨hfr.os,hfr.tape,hfr.output,hfr.size,hfr.block⟩)
   have hlen2:=Hd hsafe.here.len
   have hone2:=Hd hsafe.here.oneCell
   have hw4:w.heap.size+2≤w4.heap.size:=H1.out.size
   have hS5:RowT 39 w5 w.heap.size cs∧RowsV w5 g v.list.length F tl:=by
    obtain ⟨s1,s2,s3,s4,_⟩:=HST.out
    have hb:=HBD.out
    exact ⟨(hfr.block w.heap.size (by show _<w4.heap.size;omega) (by omega)).trans H1.out.box,(hfr.block g (by show _<w4.heap.size;omega) (by omega)).trans HR.out.row,HR.out.len,HR.out.one⟩
   have HS5:=Hd hS5
   refine hK.out _ _ (fun _=>hS5) (fun _=>?_)
   clear hK K hsafe hfr hHeld hS5
   refine wpAnyT_one (i:=9) (by kernel_rfl) rfl (fun K hK=>?_)
   rw [if_pos (by rfl)]
   go_simp
   refine hK.out _ _ (fun _=>HS5.out) (fun _=>?_)
   clear hK K
   refine wpAnyT_one (i:=10) (by kernel_rfl) rfl (fun K hK=>?_)
   rw [if_pos (by rfl)]
   refine wp_store_atL rfl 39 _ _ rfl g (k * 13) cs2 rfl rfl 39 (flatV v.list.length F++tl) (flatV v.list.length (updV F k cs2)++tl) HS5.out.2.row (sizeV13 hlen2.out) (flatV_set HR.out.len hlen2.out hlt) (fit13 HR.out.len hlen2.out hlt) hone2.out ?_
   refine hK.out _ _ (fun h=>absurd rfl h) (fun _=>?_)
   clear hK K
   refine wpAnyT_done (by kernel_rfl) ?_ _
   have HN1:=Hd (Lo1.next HL.out HM2.out H1.out hlt HFR.out HS0.out)
   go_wp2_with fail
   go_roundw
   case rel=>exact ⟨k+1,_,by omega,by go_num,HN1⟩
   case measure=>simp [intOf];omega
  ·obtain rfl:k=v.list.length:=by omega
   have hro1:=Hd (show (Tryz.prog.info? 39).map (·.size)=some cs.length by rw [HC13.out];exact sizeV)
   have hsrt:=Hd (sorted_src HFL.out HBD.out HL.out H1.out)
   go_wp2_with ((with_reducible show wpList _ _ _ (⟨some 22,_,_,_,_,_⟩::_) _ _);refine wpList_load_mid rfl 39 _ rfl w.heap.size 0 rfl cs _ H1.out.box.range Tryz.underlying39 rfl hro1.out ?_)
   refine (sorted_t v.fields cs va vc fF w4 (by omega) HC12.out hsrt.out.1 hsrt.out.2 (okC_nodup HOK.out)).mono ?_
   rintro e wS ⟨a2,c2,rfl,hbS,hso⟩
   have hf12:=(H1.out.box.then hbS).frozen 12
   have hc12:=(H1.out.box.then hbS).cell HC12.out
   have hw4:w.heap.size+2≤w4.heap.size:=H1.out.size
   have hwS:w4.heap.size≤wS.heap.size:=hbS.size
   obtain ⟨l2,hl2⟩:∃ l2,l2=sortF v.fields:=⟨_,rfl⟩
   have HL2:=Hd hl2
   have hlen:v.fields.length=l2.length:=by rw [hl2,sortF_len]
   have HLEN:=Hd hlen
   have hl2N:l2.length≤N:=by rw [← hlen];exact hfll
   obtain ⟨Wf,hWf⟩:∃ Wf,Wf=wS.setCell ⟨w.heap.size,12,none⟩ (.slice a2 v.fields.length c2):=⟨_,rfl⟩
   obtain ⟨h,tl2,st2,en2,G0,hF2,ha2,hE2⟩:=Fl2.of HFL.out HBD.out HL.out H1.out hbS hso hWf
   rw [← hl2] at hF2 ha2 hE2
   have HF2:=Hd hF2
   have HA2:=Hd ha2
   have HE2:=Hd hE2
   have HBOX:=Hd (show RowT 39 Wf w.heap.size (cs.set 12 (.slice a2 v.fields.length c2)) by rw [hWf];exact (H1.out.box.then hbS).set 12 _)
   have HRES:=Hd (show RowT 39 Wf (w.heap.size+1) zeroV.toList by rw [hWf];exact (H1.out.res.then hbS).setOther (by omega) _ _)
   have hsf:w4.heap.size≤Wf.heap.size:=by rw [hWf];simpa using hwS
   have HWF:=Hd hWf
   have HBS:=Hd hbS
   have HX12:=Hd (show (cs.set 12 (.slice a2 v.fields.length c2))[12]?=some (.slice a2 v.fields.length c2) by rw [List.getElem?_set_self (by rw [HC13.out];decide)])
   have HST2:=Hd (Lo2.start hF2)
   have c12:(wS.setCell ⟨w.heap.size,12,none⟩ (.slice a2 v.fields.length c2)).cell? ⟨w.heap.size,12,none⟩=some (.slice a2 v.fields.length c2):=by rw [← hWf];exact HBOX.out.cell HX12.out
   clear hso hbS hF2 ha2 hE2 hl2 hWf hlen
   go_wp2_with fail
   clear c12 hf12 hc12
   rw [← HWF.out,HLEN.out]
   rw [HLEN.out] at HBOX HX12
   go_simp
   go_loopw [28] (fun i wr=>∃ (k:Nat) (G:Nat→List Value),k≤l2.length∧i=.int .i64 k∧Hid (Lo2 N m l2 Wf wr h G0 tl2 st2 en2 k G)) (fun i _=>l2.length-(intOf i).toNat)
   case atStart=>exact ⟨0,G0,by omega,rfl,HST2⟩
   case round =>
    clear HST2
    obtain ⟨w7,rfl⟩:∃ w7,w7=wr:=⟨wr,rfl⟩
    obtain ⟨k,G,hk2,rfl,H2⟩:=hrel
    have HIN:=Hd (HF2.out)
    by_cases hlt:k<l2.length
    ·have hn:l2≠[]:=fun e=>by rw [e] at hlt;simp at hlt
     obtain ⟨_,hh1,hh2,hst,_,_⟩:=HF2.out hn
     have haa:=HA2.out hn
     have hE3:en2 k≤w.heap.size:=Nat.le_trans (HE2.out hn k hlt).2 HBD.out.2.2.2
     subst haa
     have hstk:=hst k hlt
     obtain ⟨ds,hG,hkN,hkid⟩:=Lo2.kid HF2.out H2.out hlt
     obtain ⟨ky,hky⟩:∃ ky,ky=l2[k].1:=⟨_,rfl⟩
     rw [← hky] at hG hkN
     have HKY:=Hd hky
     have HG:=Hd hG
     have HKID:=Hd hkid
     have hl1:=Hd (show (Tryz.prog.info? 39).map (·.size)=some ds.length by rw [hkid.len];exact sizeV)
     have HOKK:=Hd (okC_sorted HOK.out HL2.out l2[k] (List.getElem_mem hlt))
     have HR:=Hd (H2.out.rows hn)
     have hw7:Wf.heap.size≤w7.heap.size:=H2.out.size
     have HBX7:=Hd (show RowT 39 w7 w.heap.size (cs.set 12 (.slice (some ⟨h,0,none⟩) l2.length c2)) from H2.out.box_of HF2.out HBOX.out (by omega) (fun hn j hj=>Nat.le_trans (HE2.out hn j hj).2 HBD.out.2.2.2))
     have HRNG:=Hd (show w7.rangeAt h (k * 14+1) ds from fun j u hu=>by
      have h1:=HR.out.range hlt (j+1) u (by rw [hG];exact hu)
      rw [show k * 14+1+j=k * 14+(j+1) by omega]
      exact h1)
     clear hn hst hky hG hkid
     go_wp2_with fail
     have hHeld:RowT 39 w7.drew w.heap.size (cs.set 12 (.slice (some ⟨h,0,none⟩) l2.length c2))∧RowsF w7.drew h l2.length G tl2:=⟨HBX7.out,HR.out.row,HR.out.len,HR.out.one,HR.out.key⟩
     refine wp_region_T (S:=fun q=>RowT 39 q w.heap.size (cs.set 12 (.slice (some ⟨h,0,none⟩) l2.length c2))∧RowsF q h l2.length G tl2) 12 (by kernel_rfl) ?_
     refine wpAnyT_take (i:=0) (v:=.pointer (some ⟨w.heap.size,12,none⟩)) [12,11,10,1] 31 rfl rfl (by kernel_rfl) (by kernel_rfl) (fun _ _ _ h=>h) (Or.inl ⟨by kernel_rfl,fun u hu=>by go_simp⟩) hHeld ?_
     simp only [sq1,sq0]
     refine wpAnyT_take (i:=1) (v:=.slice (some ⟨h,0,none⟩) l2.length c2) [12,11,10] 32 rfl rfl (by kernel_rfl) (by kernel_rfl) (fun _ _ _ h=>h) (Or.inl ⟨by kernel_rfl,fun u hu=>by have hc:=hu.1.cell HX12.out;go_simp⟩) hHeld ?_
     simp only [sq1,sq0]
     refine wpAnyT_take (i:=2) (v:=.int .i64 k) [12,11,10] 33 rfl rfl (by kernel_rfl) (by kernel_rfl) (fun _ _ _ h=>h) (Or.inl ⟨by kernel_rfl,fun u hu=>by go_simp⟩) hHeld ?_
     simp only [sq1,sq0]
     refine wpAnyT_take (i:=3) (v:=.pointer (some ⟨w.heap.size,12,none⟩)) [12,9,8,7,6,4] 34 rfl rfl (by kernel_rfl) (by kernel_rfl) (fun _ _ _ h=>h) (Or.inl ⟨by kernel_rfl,fun u hu=>by go_simp⟩) hHeld ?_
     simp only [sq1,sq0]
     refine wpAnyT_take (i:=4) (v:=.slice (some ⟨h,0,none⟩) l2.length c2) [12,9,8,7,6] 35 rfl rfl (by kernel_rfl) (by kernel_rfl) (fun _ _ _ h=>h) (Or.inl ⟨by kernel_rfl,fun u hu=>by have hc:=hu.1.cell HX12.out;go_simp⟩) hHeld ?_
     simp only [sq1,sq0]
     refine wpAnyT_take (i:=5) (v:=.int .i64 k) [12,9,8,7,6] 36 rfl rfl (by kernel_rfl) (by kernel_rfl) (fun _ _ _ h=>h) (Or.inl ⟨by kernel_rfl,fun u hu=>by go_simp⟩) hHeld ?_
     simp only [sq1,sq0]
     refine wpAnyT_take (i:=6) (v:=.pointer (some ⟨h,k * 14,none⟩)) [12,9,8,7] 37 rfl rfl (by kernel_rfl) (by kernel_rfl) (fun _ _ _ h=>h) (Or.inl ⟨by kernel_rfl,fun u hu=>by go_simp⟩) hHeld ?_
     simp only [sq1,sq0]
     refine wpAnyT_take (i:=7) (v:=.pointer (some ⟨h,k * 14+1,none⟩)) [12,9,8] 38 rfl rfl (by kernel_rfl) (by kernel_rfl) (fun _ _ _ h=>h) (Or.inl ⟨by kernel_rfl,fun u hu=>by go_simp⟩) hHeld ?_
     simp only [sq1,sq0]
     refine wpAnyT_take (i:=8) (v:=.agg ds.toArray) [12,9] 39 rfl rfl (by kernel_rfl) (by kernel_rfl) (fun _ _ _ h=>h) ?_ hHeld ?_
     ·exact yieldsIf_load_mid (by kernel_rfl) 39 _ rfl h (k * 14+1) (by kernel_rfl) ds _ (fun u hu=>(fun j x hx=>(by rw [show k * 14+1+j=k * 14+(j+1) by omega];exact hu.2.range hlt (j+1) x (by rw [HG.out];exact hx)))) Tryz.underlying39 rfl hl1.out
     simp only [sq1,sq0]
     refine wpAnyT_one (i:=9) (by kernel_rfl) rfl (fun K hK=>?_)
     rw [if_pos (by rfl)]
     go_simp
     refine (IH.out N _ _ (st2 k) (en2 k) ds HOKK.out hN (HKID.out.step (c:=w7.drew) ⟨Nat.le_refl _,fun _ _ _=>rfl⟩)).mono ?_
     rintro e w5 ⟨cs2,rfl,hsafe,hfr⟩
     have HS0:=Hd (show KeptU w7.heap.size (st2 k) (en2 k) w5 (fun c=>ValD.At c c.heap.size N (sortD m l2[k].2) cs2) from hsafe)
     have HFR:=Hd (show AptF (st2 k) (en2 k) w7 w5 from ⟨hfr.os,hfr.tape,hfr.output,hfr.size,hfr.block⟩)
     have hlen2:=Hd hsafe.here.len
     have hone2:=Hd hsafe.here.oneCell
     have hS5:RowT 39 w5 w.heap.size (cs.set 12 (.slice (some ⟨h,0,none⟩) l2.length c2))∧RowsF w5 h l2.length G tl2 :=
      ⟨(hfr.block w.heap.size (by show _<w7.heap.size;omega) (by omega)).trans HBX7.out,(hfr.block h (by show _<w7.heap.size;omega) (by omega)).trans HR.out.row,HR.out.len,HR.out.one,HR.out.key⟩
     have HS5:=Hd hS5
     refine hK.out _ _ (fun _=>hS5) (fun _=>?_)
     clear hK K hsafe hfr hHeld hS5
     refine wpAnyT_one (i:=10) (by kernel_rfl) rfl (fun K hK=>?_)
     rw [if_pos (by rfl)]
     go_simp
     refine hK.out _ _ (fun _=>HS5.out) (fun _=>?_)
     clear hK K
     refine wpAnyT_one (i:=11) (by kernel_rfl) rfl (fun K hK=>?_)
     rw [if_pos (by rfl)]
     go_simp
     refine hK.out _ _ (fun _=>HS5.out) (fun _=>?_)
     clear hK K
     refine wpAnyT_one (i:=12) (by kernel_rfl) rfl (fun K hK=>?_)
     rw [if_pos (by rfl)]
     refine wp_store_atL rfl 39 _ _ rfl h (k * 14+1) cs2 rfl rfl 76 (flatR l2.length G++tl2) (flatR l2.length (upd G k (.string ky::cs2))++tl2) HS5.out.2.row (sizeV13 hlen2.out) (flatR_put1 HR.out.len hlt HG.out hlen2.out) (fit14' HR.out.len hlen2.out hlt) hone2.out ?_
     refine hK.out _ _ (fun h=>absurd rfl h) (fun _=>?_)
     clear hK K
     refine wpAnyT_done (by kernel_rfl) ?_ _
     have HN2:=Hd (Lo2.next HF2.out hsf H2.out hlt HKY.out.symm hkN HFR.out HS0.out)
     go_wp2_with fail
     go_roundw
     case rel=>exact ⟨k+1,_,by omega,by go_num,HN2⟩
     case measure=>simp [intOf];omega
    ·obtain rfl:k=l2.length:=by omega
     have hw7:Wf.heap.size≤w7.heap.size:=H2.out.size
     obtain ⟨ro,hre⟩:∃ ro,ro=cs.set 12 (.slice a2 l2.length c2):=⟨_,rfl⟩
     have HBX7:=Hd (show RowT 39 w7 w.heap.size ro from by rw [hre];exact H2.out.box_of HF2.out HBOX.out (by omega) (fun hn j hj=>Nat.le_trans (HE2.out hn j hj).2 HBD.out.2.2.2))
     have HRS7:=Hd (show RowT 39 w7 (w.heap.size+1) zeroV.toList from H2.out.box_of HF2.out HRES.out (by omega) (fun hn j hj=>Nat.le_succ_of_le (Nat.le_trans (HE2.out hn j hj).2 HBD.out.2.2.2)))
     have hrl:ro.length=13:=by rw [hre,List.length_set];exact HC13.out
     have hro:=Hd (show (Tryz.prog.info? 39).map (·.size)=some ro.length by rw [hrl];exact sizeV)
     have hr2:=Hd (row_size13 hrl)
     have hr3:=Hd (row_zero13 hrl)
     have hr4:=Hd (Go.all_oneCell_toArray (show ∀ u∈ro,u.oneCell'=true from fun u hu=>by
      rw [hre] at hu
      rcases List.mem_or_eq_of_mem_set hu with h1 | rfl
      ·exact HONE.out u h1
      ·rfl))
     have HRE:=Hd hre
     clear hre hrl
     go_wp2_with (first
      | ((with_reducible show wpList _ _ _ (⟨some 44,_,_,_,_,_⟩::_) _ _);refine wpList_load_mid rfl 39 _ rfl w.heap.size 0 rfl ro _ HBX7.out.range Tryz.underlying39 rfl hro.out ?_)
      | ((with_reducible show wpList _ _ _ (⟨none,.store 39 (.tmp 2) (.tmp 44),_,_,_,_⟩::_) _ _);refine wpList_store_row rfl 39 _ _ rfl (w.heap.size+1) ro.toArray rfl rfl 39 zeroV HRS7.out hr2.out hr3.out hr4.out ?_))
     refine bodyPost_ret (results_cell_row rfl _ _ (w.heap.size+1) 39 _ (0,0) _ rfl (setRow_heap _ _ _ _ _ _ HRS7.out) Tryz.underlying39 rfl hr2.out) rfl ?_
     exact ⟨ro,rfl,ar_end HCS.out HOWN.out HBD.out HY.out HL.out H1.out HBS.out HWF.out HF2.out H2.out HA2.out HE2.out HL2.out HRE.out⟩
theorem arr_all:∀ m,ArrP m
 | 0=>fun _ _ _ _ _ _ hok=>hok.elim
 | m+1=>arr_step m (arr_all m)
end Go.Proofs.YtniljgkkcnekgaaGreatDoor

/- value.Copy and value.Sorted. -/
namespace Go.Proofs.YtniljgkkcnekgaaGreatDoor
open Go.RowKit Stb
theorem okC_fits:∀ {m:Nat} {v:ValD},okC m v→fitsV m v
 | 0,_,h=>h.elim
 | _+1,_,h=>⟨fun x hx=>okC_fits (h.2.2.2.2.2.1 x hx),fun z hz=>okC_fits (h.2.2.2.2.2.2 z hz)⟩
def CopU (N n:Nat) (v:ValD) (w:World) (e:Ending) (w':World):Prop:=∃ (cs:List Value) (S:Nat),e=.returned (.agg cs.toArray)∧w.heap.size≤S∧TreeAt N n w' S w'.heap.size v cs∧Below w.heap.size w w'
def ValR (N:Nat) (v:ValD) (w:World) (e:Ending) (w':World):Prop:=∃ cs:List Value,e=.returned (.agg cs.toArray)∧(∀ c:World,w'.heap.size≤c.heap.size→(∀ q,w.heap.size≤q→q<w'.heap.size→c.heap[q]?=w'.heap[q]?)→ValD.At c c.heap.size N v cs)∧Below w.heap.size w w'
set_option maxRecDepth 100000 in
set_option maxHeartbeats 3200000 in
theorem copy_t (n:Nat) (v:ValD) (w:World) (B N:Nat) (cs:List Value) (hn:n≤65536) (hf:fitsV n v) (hN:N≤4294967296) (hB:B≤w.heap.size) (hv:ValD.At w B N v cs) :
 Calls Tryz.prog 93 #[.agg cs.toArray] w (CopU N n v w):=by
 have HV:=Hd hv
 have HF:=Hd hf
 have hl1:=Hd (show (Tryz.prog.info? 39).map (·.size)=some cs.length by rw [hv.len];exact sizeV)
 have HRR:=Hd (show RowT 39 ((w.alloc (.cells cs.toArray 39)).alloc (.cells zeroV 39)) w.heap.size cs from (RowT.new w 39 cs).alloc _)
 have HRZ:=Hd (show RowT 39 ((w.alloc (.cells cs.toArray 39)).alloc (.cells zeroV 39)) (w.heap.size+1) zeroV.toList from by
  have:=RowT.new (w.alloc (.cells cs.toArray 39)) 39 zeroV.toList
  rw [World.size_alloc] at this
  exact this)
 have HBW:=Hd (show Below w.heap.size w ((w.alloc (.cells cs.toArray 39)).alloc (.cells zeroV 39)) from belowThen (belowBox w _) (belowBox _ _))
 have hsz:=Hd (show ((w.alloc (.cells cs.toArray 39)).alloc (.cells zeroV 39)).heap.size=w.heap.size+2 by rw [World.size_alloc,World.size_alloc])
 clear hv hf
 go_enter Tryz.func93,Tryz.ntmps93
 go_wp2_with (refine wpList_load_mid rfl 39 _ rfl w.heap.size 0 rfl cs _ HRR.out.range Tryz.underlying39 rfl hl1.out ?_)
 refine (copied_t n v _ B N cs 65536 (by omega) (by omega) HF.out hN (Nat.le_trans hB HBW.out.size) (HV.out.below (HBW.out.mono hB))).mono ?_
 rintro e w1 ⟨cs2,rfl,ht,hb⟩
 have HT:=Hd (show TreeAt N n w1 (w.heap.size+2) w1.heap.size v cs2 by rw [← hsz.out];exact ht)
 have HB1:=Hd hb
 have hlen2:=ht.len
 have hr2:=Hd (row_size13 hlen2)
 have hr3:=Hd (row_zero13 hlen2)
 have hr4:=Hd (Go.all_oneCell_toArray ht.at.oneCell)
 have HRZ1:=Hd (HRZ.out.then hb)
 clear ht hb hlen2
 go_wp2_with (refine wpList_store_row rfl 39 _ _ rfl (w.heap.size+1) cs2.toArray rfl rfl 39 zeroV HRZ1.out hr2.out hr3.out hr4.out ?_)
 refine bodyPost_ret (results_cell_row rfl _ _ (w.heap.size+1) 39 _ (0,0) _ rfl (setRow_heap _ _ _ _ _ _ HRZ1.out) Tryz.underlying39 rfl hr2.out) rfl ?_
 have h1:=HT.out.size
 refine ⟨cs2,w.heap.size+2,rfl,by omega,?_,below_setRow (belowThen HBW.out HB1.out) (by omega) _⟩
 rw [setRow_size]
 refine HT.out.step ⟨by rw [setRow_size];exact Nat.le_refl _,fun q q1 q2=>setRow_other _ _ _ _ ?_⟩
 omega
set_option maxRecDepth 100000 in
set_option maxHeartbeats 3200000 in
theorem sorted_v (n:Nat) (v:ValD) (w:World) (B N:Nat) (cs:List Value) (hn:n≤65536) (hok:okC n v) (hN:N≤4294967296) (hB:B≤w.heap.size) (hv:ValD.At w B N v cs) :
 Calls Tryz.prog 58 #[.agg cs.toArray] w (ValR N (sortD n v) w):=by
 have HV:=Hd hv
 have HOK:=Hd hok
 have hl1:=Hd (show (Tryz.prog.info? 39).map (·.size)=some cs.length by rw [hv.len];exact sizeV)
 have HRR:=Hd (show RowT 39 ((w.alloc (.cells cs.toArray 39)).alloc (.cells zeroV 39)) w.heap.size cs from (RowT.new w 39 cs).alloc _)
 have HRZ:=Hd (show RowT 39 ((w.alloc (.cells cs.toArray 39)).alloc (.cells zeroV 39)) (w.heap.size+1) zeroV.toList from by
  have:=RowT.new (w.alloc (.cells cs.toArray 39)) 39 zeroV.toList
  rw [World.size_alloc] at this
  exact this)
 have HBW:=Hd (show Below w.heap.size w ((w.alloc (.cells cs.toArray 39)).alloc (.cells zeroV 39)) from belowThen (belowBox w _) (belowBox _ _))
 have hsz:=Hd (show ((w.alloc (.cells cs.toArray 39)).alloc (.cells zeroV 39)).heap.size=w.heap.size+2 by rw [World.size_alloc,World.size_alloc])
 clear hv hok
 go_enter Tryz.func58,Tryz.ntmps58
 go_wp2_with (refine wpList_load_mid rfl 39 _ rfl w.heap.size 0 rfl cs _ HRR.out.range Tryz.underlying39 rfl hl1.out ?_)
 refine (copy_t n v _ B N cs hn (okC_fits HOK.out) hN (Nat.le_trans hB HBW.out.size) (HV.out.below (HBW.out.mono hB))).mono ?_
 rintro e w1 ⟨cs1,S,rfl,hS,ht,hb⟩
 have HT:=Hd ht
 have HB1:=Hd hb
 have HS:=Hd (show w.heap.size+2≤S by rw [← hsz.out];exact hS)
 clear ht hb hS
 go_wp2_with fail
 refine (arr_all n N v w1 S w1.heap.size cs1 HOK.out hN HT.out).mono ?_
 rintro e w2 ⟨cs2,rfl,hk,hfr⟩
 have HK:=Hd hk
 have HFR:=Hd hfr
 have hlen2:=hk.here.len
 have hr2:=Hd (row_size13 hlen2)
 have hr3:=Hd (row_zero13 hlen2)
 have hr4:=Hd (Go.all_oneCell_toArray hk.here.oneCell)
 have h1:=HT.out.size
 have h2:=HS.out
 have HRZ1:=Hd (show RowT 39 w2 (w.heap.size+1) zeroV.toList from (hfr.block _ (by omega) (by omega)).trans (HRZ.out.then HB1.out))
 have HB2:=Hd (show Below w.heap.size w w2 from (belowThen HBW.out HB1.out).trans (hfr.below (by omega) (by omega)))
 clear hk hfr hlen2 h1 h2
 go_wp2_with (refine wpList_store_row rfl 39 _ _ rfl (w.heap.size+1) cs2.toArray rfl rfl 39 zeroV HRZ1.out hr2.out hr3.out hr4.out ?_)
 refine bodyPost_ret (results_cell_row rfl _ _ (w.heap.size+1) 39 _ (0,0) _ rfl (setRow_heap _ _ _ _ _ _ HRZ1.out) Tryz.underlying39 rfl hr2.out) rfl ?_
 have h1:=HT.out.size
 have h2:=HS.out
 exact ⟨cs2,rfl,fun c h3 h4=>HK.out c (by rw [setRow_size] at h3;exact h3) (fun q hq ho=>(h4 q (by omega) (by rw [setRow_size];exact hq)).trans (setRow_other _ _ _ _ (by omega))),below_setRow HB2.out (by omega) _⟩
end Go.Proofs.YtniljgkkcnekgaaGreatDoor
