/- datakitref07.Sorted: the walk. -/
import Derived.Test.YtmjfggadehkbjaaGreatDoorProg
import Derived.Test.YtmjfggadehkbjaaGreatDoorGA
import Derived.Test.YtmjfggadehkbjaaGreatDoorGB
import Derived.Test.YtmjfggadehkbjaaGreatDoorGC
import Derived.Test.YtmjfggadehkbjaaGreatDoorGD
import Derived.Test.YtmjfggadehkbjaaGreatDoorRow36
import Derived.Test.YtmjfggadehkbjaaGreatDoorXA
import Derived.Test.YtmjfggadehkbjaaGreatDoorXD
import Derived.Test.YtmjfggadehkbjaaGreatDoorXE
import Derived.Test.YtmjfggadehkbjaaGreatDoorXI
import Derived.Test.YtmjfggadehkbjaaGreatDoorXK
import Derived.Test.YtmjfggadehkbjaaGreatDoorAE
import Derived.Test.YtmjfggadehkbjaaGreatDoorAF
import Derived.Test.YtmjfggadehkbjaaGreatDoorAJ
import Derived.Test.YtmjfggadehkbjaaGreatDoorAM
import Derived.Test.YtmjfggadehkbjaaGreatDoorArd10
namespace Go.Proofs.YtmjfggadehkbjaaGreatDoor
open Go.RowKit Stb
def SrtD (m:Nat):Prop:=∀ (v:ValD) (w:World) (B N:Nat) (cs:List Value),fitsV m v→N≤4294967296→B≤w.heap.size→ValD.At w B N v cs→Calls Tryz.prog 181 #[.agg cs.toArray] w (SrqR B N (sortD m v) w)
set_option maxRecDepth 100000 in
set_option maxHeartbeats 6400000 in
theorem srt_step (m:Nat) (IH0:SrtD m):SrtD (m+1):=by
 intro v w B N cs hf hN hB hv
 have IH:=Hd IH0
 obtain ⟨z0,hz0s,hinfo⟩:=infoV
 obtain ⟨i0,hi,hz0,hz1,hz2⟩:=info_parts hinfo
 have HI:=Hd hi
 have HZ0:=Hd hz0
 have HZ1:=Hd hz1
 have HZ2:=Hd hz2
 have HZS:=Hd hz0s
 clear hi hz0 hz1 hz2 hz0s hinfo
 obtain ⟨z1,hz0s,hinfo⟩:=infoF
 obtain ⟨i1,hi,hz0,hz1,hz2⟩:=info_parts hinfo
 have FI:=Hd hi
 have FZ0:=Hd hz0
 have FZ1:=Hd hz1
 have FZ2:=Hd hz2
 have FZS:=Hd hz0s
 clear hi hz0 hz1 hz2 hz0s hinfo
 obtain ⟨ya,la,va,yc,lc,vc,hh⟩:=hv.has
 have HV:=Hd hv
 have HF:=Hd hf
 have HH:=Hd hh
 have HC13:=Hd hh.len
 have HC1:=Hd hv.oneCell
 have hll:v.list.length≤N:=hh.own.2.2.2.2.2.2.2.2.2.1
 have hfll:v.fields.length≤N:=hh.own.2.2.2.2.2.2.2.2.2.2
 have hsr:=Hd (row_size hh.len)
 have hsl:=Hd (show (Tryz.prog.info? 30).map (·.size)=some cs.length by rw [hh.len];exact sizeV)
 have hszz:=Hd (show zeroV.size=cs.toArray.size by show 13=cs.toArray.size;rw [List.size_toArray,hh.len])
 have hone:=Hd (Go.all_oneCell_toArray hv.oneCell)
 have HT0:=Hd (tval w cs zeroV.toList cs)
 clear IH0 hf hv hh
 go_enter Tryz.func181,Tryz.ntmps181
 go_upto_region 2 with (first
  | ((with_reducible show wpList _ _ _ (⟨some 7,_,_,_,_,_⟩::_) _ _);refine wpList_load_mid rfl 30 _ rfl w.heap.size 0 rfl cs _ (((RowT.new w 30 cs).alloc _)).range Tryz.underlying30 rfl hsl.out ?_)
  | ((with_reducible show wpList _ _ _ (⟨none,.store 30 (.tmp 3) (.tmp 7),_,_,_,_⟩::_) _ _);refine wpList_store_new2 rfl 30 _ _ rfl (w.heap.size+1+1) (by rw [World.size_alloc,World.size_alloc]) _ cs.toArray rfl rfl hsr.out hszz.out hone.out ?_))
 obtain ⟨W0,hW0⟩:∃ W0,W0=((w.alloc (.cells cs.toArray 30)).alloc (.cells zeroV 30)).alloc (.cells cs.toArray 30):=⟨_,rfl⟩
 have HT:=Hd (show Tval w W0 cs zeroV.toList cs by rw [hW0];exact HT0.out)
 rw [show #[Value.int .i64 0,.bool false,.bool false,.string ⟨#[]⟩,.int .i64 0,.int .i64 0,.int .i64 0,.int .i64 0,.int .i64 0,.string ⟨#[]⟩,.slice none 0 0,.slice none 0 0,.slice none 0 0]=zeroV from rfl,← hW0]
 have HT1:=Hd (show Tval w ((W0.setCell ⟨w.heap.size+1+1,11,none⟩ (.slice none 0 0)).setCell ⟨w.heap.size+1+1,12,none⟩ (.slice none 0 0)) cs zeroV.toList (rowS cs (.slice none 0 0) (.slice none 0 0)) from (HT.out.putOut rfl).putOut rfl)
 have c11:=HT.out.res.cell HH.out.list
 have c12:=(HT.out.putOut (j:=11) (v:=.slice none 0 0) rfl).res.cell (j:=12) (v:=.slice va v.fields.length vc) (by rw [List.getElem?_set_ne (by decide)];exact HH.out.fields)
 have f11:=HT.out.res.frozen 11
 have f12:=(HT.out.putOut (j:=11) (v:=.slice none 0 0) rfl).res.frozen 12
 clear hW0 HT0 HT
 go_wp2_with fail
 clear c11 c12 f11 f12
 go_simp
 go_loopw [4] (fun i wr=>∃ (k:Nat) (s:Value) (xs:List Value),k≤v.list.length∧i=.int .i64 k∧Hid (wr.ownsRow (w.heap.size+3) 30 13 s k xs)∧Hid (EltS (w.heap.size+3) s w wr B N (v.list.map (sortD m)) k xs)∧Hid (Tval w wr cs zeroV.toList (rowS cs s (.slice none 0 0)))) (fun i _=>v.list.length-(intOf i).toNat)
 case atStart=>exact ⟨0,.slice none 0 0,[],by omega,rfl,Hd (World.ownsRow_nil _ _ _ _),Hd (fun j _ hj=>absurd hj (by omega)),HT1⟩
 case round =>
  clear HT1
  obtain ⟨w4,rfl⟩:∃ w4,w4=wr:=⟨wr,rfl⟩
  obtain ⟨k,s,xs,hk,rfl,HO,HCH,HT⟩:=hrel
  have e11:=HT.out.one.cell HH.out.list
  by_cases hlt:k<v.list.length
  ·obtain ⟨b,o,rfl,hb,hget⟩:=HH.out.atList.get (by intro h;simp [h] at hlt)
   obtain ⟨cs1,h1,h2⟩:=hget k hlt
   have HC1':=Hd h1
   have HV1:=Hd h2
   have hl1:=Hd (show (Tryz.prog.info? 30).map (·.size)=some cs1.length by rw [h2.len];exact sizeV)
   have HFC:=Hd (HF.out.1 v.list[k] (List.getElem_mem hlt))
   clear h1 h2 hget
   go_wp2_with fail
   have hHeld:Tval w w4.drew cs zeroV.toList (rowS cs s (.slice none 0 0)):=HT.out.drew
   refine wp_region_T (S:=fun q=>Tval w q cs zeroV.toList (rowS cs s (.slice none 0 0))) 11 (by kernel_rfl) ?_
   refine wpAnyT_take (i:=0) (v:=.pointer (some ⟨w.heap.size+1+1,11,none⟩)) [11,9,1] 17 rfl rfl (by kernel_rfl) (by kernel_rfl) (fun _ _ _ h=>h) (Or.inl ⟨by kernel_rfl,fun u hu=>by go_simp⟩) (by assumption) ?_
   simp only [sq1,sq0]
   refine wpAnyT_take (i:=1) (v:=s) [11,9] 18 rfl rfl (by kernel_rfl) (by kernel_rfl) (fun _ _ _ h=>h) (Or.inl ⟨by kernel_rfl,fun u hu=>by have hc:=hu.res.cell (rowS_11 HC13.out);go_simp⟩) (by assumption) ?_
   simp only [sq1,sq0]
   refine wpAnyT_take (i:=2) (v:=.pointer (some ⟨w.heap.size,11,none⟩)) [11,9,8,7,6,5,3] 19 rfl rfl (by kernel_rfl) (by kernel_rfl) (fun _ _ _ h=>h) (Or.inl ⟨by kernel_rfl,fun u hu=>by go_simp⟩) (by assumption) ?_
   simp only [sq1,sq0]
   refine wpAnyT_take (i:=3) (v:=.slice (some ⟨b,o,none⟩) v.list.length lc) [11,9,8,7,6,5] 20 rfl rfl (by kernel_rfl) (by kernel_rfl) (fun _ _ _ h=>h) (Or.inl ⟨by kernel_rfl,fun u hu=>by have hc:=hu.one.cell HH.out.list;go_simp⟩) (by assumption) ?_
   simp only [sq1,sq0]
   refine wpAnyT_take (i:=4) (v:=.int .i64 k) [11,9,8,7,6,5] 21 rfl rfl (by kernel_rfl) (by kernel_rfl) (fun _ _ _ h=>h) (Or.inl ⟨by kernel_rfl,fun u hu=>by go_simp⟩) (by assumption) ?_
   simp only [sq1,sq0]
   refine wpAnyT_take (i:=5) (v:=.pointer (some ⟨b,o+k * 13,none⟩)) [11,9,8,7,6] 22 rfl rfl (by kernel_rfl) (by kernel_rfl) (fun _ _ _ h=>h) (Or.inl ⟨by kernel_rfl,fun u hu=>by go_simp⟩) (by assumption) ?_
   simp only [sq1,sq0]
   refine wpAnyT_take (i:=6) (v:=.agg cs1.toArray) [11,9,8,7] 23 rfl rfl (by kernel_rfl) (by kernel_rfl) (fun _ _ _ h=>h) ?_ (by assumption) ?_
   ·exact yieldsIf_load_mid (by kernel_rfl) 30 _ rfl b (o+k * 13) (by kernel_rfl) cs1 _ (fun u hu=>(HC1'.out.below (hu.below.mono hB) hb).range) Tryz.underlying30 rfl hl1.out
   simp only [sq1,sq0]
   refine wpAnyT_one (i:=7) (by kernel_rfl) rfl (fun K hK=>?_)
   go_simp
   refine (IH.out _ _ B N cs1 HFC.out hN (Nat.le_trans hB hHeld.below.size) (HV1.out.below (hHeld.below.mono hB))).mono ?_
   rintro e w5 ⟨cs2,rfl,hsafe,hb⟩
   have HS0:=Hd hsafe
   have HB5:=Hd (belowDrew hb)
   have hlen2:=(SrqR.here hsafe hb (Nat.le_trans hB hHeld.below.size)).len
   have HONE:=Hd (SrqR.here hsafe hb (Nat.le_trans hB hHeld.below.size)).oneCell
   have HLEN:=Hd hlen2
   have hfz:=fold_zip0 cs2 #[.int .i64 0,.bool false,.bool false,.string ⟨#[]⟩,.int .i64 0,.int .i64 0,.int .i64 0,.int .i64 0,.int .i64 0,.string ⟨#[]⟩,.slice none 0 0,.slice none 0 0,.slice none 0 0] hlen2.symm
   have hT5:=hHeld.later hb
   refine hK.out _ _ (fun _=>hT5) (fun _=>?_)
   clear hK K hb hsafe hHeld
   refine wpAnyT_one (i:=8) (by kernel_rfl) rfl (fun K hK=>?_)
   go_simp
   refine hK.out _ _ (fun _=>hT5.later (belowBox w5 _)) (fun _=>?_)
   clear hK K
   have hs4:w.heap.size+3≤w4.heap.size:=HT.out.size
   have hs5:w.heap.size+3≤w5.heap.size:=hT5.size
   have HO5:=Hd (own_below' HO.out HB5.out)
   refine wpAnyT_one (i:=9) (by kernel_rfl) rfl (fun K hK=>?_)
   refine step_append_lies _ rfl (.tmp 18) (.tmp 25) 27 rfl (w.heap.size+3) 30 i0 (.agg z0) 13 168 Tryz.underlying27 HI.out HZ0.out HZ1.out HZ2.out HZS.out (by decide) _ _ _ rfl (HO5.out.alloc _) ⟨w5.heap.size,0,none⟩ 1 1 cs2 rfl HLEN.out ?c1 ?c2 (by decide) ?c3 ?c4 ?c5 _ rfl ?_
   case c1 =>
    intro j u hj
    rw [addr_add',World.cell?_alloc_new]
    simpa using hj
   case c2=>exact HONE.out
   case c3=>unfold maxLen;omega
   case c4=>omega
   case c5=>rw [World.size_alloc];omega
   intro g cap w6 hown6 hgrow6 hlie6 hlt6
   have hf:=step_factsN (L:=w.heap.size+3) hs4 (fun q hq=>HO.out.lt q hq) HB5.out hgrow6 hlie6
   have HO6:=Hd hown6
   have hT6:Tval w w6 cs zeroV.toList (rowS cs s (.slice none 0 0)):=HT.out.low hf.2.2
   have HSF:=Hd hf
   have HG6:=Hd (show w.heap.size+3≤g from (hown6.lt g rfl).1)
   refine hK.out _ _ (fun _=>hT6) (fun _=>?_)
   clear hK K hgrow6 hlie6 hown6 hf hlt6
   simp only [Act.put]
   refine wpAnyT_one (i:=10) (by kernel_rfl) rfl (fun K hK=>?_)
   go_simp
   refine hK.out _ _ (fun _=>hT6) (fun _=>?_)
   clear hK K
   have c11:=hT6.res.cell (rowS_11 HC13.out)
   have f11:=hT6.res.frozen 11
   have HT6:=Hd hT6
   clear hT5 hT6
   refine wpAnyT_one (i:=11) (by kernel_rfl) rfl (fun K hK=>?_)
   go_simp
   refine hK.out _ _ (fun h=>absurd rfl h) (fun _=>?_)
   clear hK K c11 f11
   refine wpAnyT_done (by kernel_rfl) ?_ _
   have HT7:=Hd (show Tval w (w6.setCell ⟨w.heap.size+1+1,11,none⟩ (.slice (some ⟨g,0,none⟩) (k+1) cap)) cs zeroV.toList (rowS cs (.slice (some ⟨g,0,none⟩) (k+1) cap) (.slice none 0 0)) from HT6.out.putOut (rowS_set11 _ _ _ _))
   have HBW:=Hd (show Below B w w4 from HT.out.below.mono hB)
   have HS:=Hd (show Safe w4.heap.size none w5 (fun c=>Below B w c→ValD.At c c.heap.size N (sortD m v.list[k]) cs2) from fun c hc hbc=>HS0.out c hc (below_side (w0:=w) (HBW.out.trans (drewB w4)) hbc (Nat.le_trans HB5.out.size hc.1)))
   have HE7:=Hd (show EltS (w.heap.size+3) (.slice (some ⟨g,0,none⟩) (k+1) cap) w (w6.setCell ⟨w.heap.size+1+1,11,none⟩ (.slice (some ⟨g,0,none⟩) (k+1) cap)) B N (v.list.map (sortD m)) (k+1) (xs++cs2) from
    HCH.out.next HO.out.1 HLEN.out (by omega) rfl HSF.out.1 (fun hk2=>by
     rw [List.getElem_map]
     exact (HS.out.next HSF.out.2.1.1 HSF.out.2.1.2).wide hs4))
   have HO7:=Hd (show (w6.setCell ⟨w.heap.size+1+1,11,none⟩ (.slice (some ⟨g,0,none⟩) (k+1) cap)).ownsRow (w.heap.size+3) 30 13 (.slice (some ⟨g,0,none⟩) (k+1) cap) (k+1) (xs++cs2) from own_blk HO6.out (fun q hq=>heap_setCell_other _ _ _ _ (by cases hq;have:=HG6.out;simp;omega)))
   clear e11 hlen2 hfz
   go_wp2_with fail
   go_roundw
   case rel=>exact ⟨k+1,_,xs++cs2,by omega,by go_num,HO7,HE7,HT7⟩
   case measure=>simp [intOf];omega
  ·obtain rfl:k=v.list.length:=by omega
   obtain ⟨lb,ld,hse,hls⟩:=vals_safeG (G:=fun c=>Below B w c) (N:=N) (L:=w.heap.size+3) (l:=v.list.map (sortD m)) HO.out (by rw [List.length_map]) (Nat.le_refl _) (fun i hi=>HCH.out i hi (by simpa using hi))
   rw [List.length_map] at hse
   subst hse
   have HLS:=Hd hls
   have e12:=HT.out.one.cell HH.out.fields
   clear hls HO HCH
   go_wp2_with fail
   refine (fields_q v.fields va vc B N w4 hN (Nat.le_trans hB HT.out.below.size) hfll (HH.out.atFields.below (HT.out.below.mono hB))).mono ?_
   rintro e wF ⟨fa,fc,rfl,hbF,hq⟩
   have HQ:=Hd hq
   have HBF:=Hd hbF
   have HTF:=Hd (HT.out.later hbF)
   have HLF:=Hd (show Safe (w.heap.size+3) none wF (fun c=>Below B w c→ValsAt c c.heap.size N (v.list.map (sortD m)) lb) from HLS.out.next (keep_below hbF (Nat.le_refl _)) (fun q _ h=>.inl h))
   have hs4:w.heap.size+3≤w4.heap.size:=HT.out.size
   have hsF:w4.heap.size≤wF.heap.size:=hbF.size
   obtain ⟨F,hF⟩:∃ F,F=sortF v.fields:=⟨_,rfl⟩
   have hFl:v.fields.length=F.length:=by rw [hF,sortF_len]
   have HFE:=Hd hF
   rw [← hF] at HQ
   rw [hFl]
   have HFF:=Hd (show ∀ z∈F,fitsV m z.2 from fun z hz=>HF.out.2 z ((sortF_perm v.fields).mem_iff.1 (by rw [← hF];exact hz)))
   have HKF:=Hd (Keep.refl (w.heap.size+3) none wF)
   have hFn:F.length≤N:=by omega
   have HFL:=Hd hFl
   clear hbF hq hF hFl e11 e12 HLS
   go_wp2_with fail
   go_simp
   go_loopw [6] (fun i wr=>∃ (k:Nat) (s:Value) (xs:List Value),k≤F.length∧i=.int .i64 k∧Hid (wr.ownsRow wF.heap.size 77 14 s k xs)∧Hid (EltF wF.heap.size s w wr B N (F.map fun z=>(z.1,sortD m z.2)) k xs)∧Hid (Tval w wr cs zeroV.toList (rowS cs (.slice lb v.list.length ld) s))∧Hid (Keep (w.heap.size+3) none wF wr)) (fun i _=>F.length-(intOf i).toNat)
   case atStart=>exact ⟨0,.slice none 0 0,[],by omega,rfl,Hd (World.ownsRow_nil _ _ _ _),Hd (fun j _ hj=>absurd hj (by omega)),HTF,HKF⟩
   case round =>
    clear HTF HKF
    obtain ⟨w7,rfl⟩:∃ w7,w7=wr:=⟨wr,rfl⟩
    obtain ⟨k,s,xs,hk,rfl,HO,HCH,HT7,HK7⟩:=hrel
    have hs7:wF.heap.size≤w7.heap.size:=HK7.out.1
    by_cases hlt:k<F.length
    ·obtain ⟨b,o,f,rfl,hbl,hbu,hfq,hcq⟩:=(show RowsQ w4 B N w4.heap.size F fa w7 from HQ.out.keep (fun b h1 h2=>HK7.out.2 b (by omega) h2 (by simp)) hs7).resolve_left (by intro h;simp [h] at hlt)
     obtain ⟨cs1,h1,h2,h3⟩:=hfq k hlt
     obtain ⟨ky,hky⟩:∃ ky,ky=F[k].1:=⟨_,rfl⟩
     have hc2:=hcq k hlt
     rw [h1] at hc2
     rw [← hky] at hc2 h2
     have HBB:=Hd (show b<wF.heap.size by
      rcases HQ.out with h | ⟨b',o',f',e1,_,e3,_⟩
      ·exfalso;rw [h] at hlt;simp at hlt
      ·simp only [Option.some.injEq,Addr.mk.injEq] at e1
       obtain ⟨rfl,_⟩:=e1
       exact e3)
     have HC2:=Hd (show CellsAt wF b (o+k * 14) (.string ky::cs1) from fun j hj=>by
      rw [← hc2 j hj]
      simp only [World.cell?]
      rw [HK7.out.2 b (by omega) HBB.out (by simp)])
     have HKY:=Hd (show F[k].1=ky∧ky.size≤N from ⟨hky.symm,h2⟩)
     have HV1:=Hd h3
     have hl1:=Hd (show (Tryz.prog.info? 30).map (·.size)=some cs1.length by rw [h3.len];exact sizeV)
     have HFC:=Hd (HFF.out F[k] (List.getElem_mem hlt))
     have HBW:=Hd (show Below B w w4 from HT.out.below.mono hB)
     clear h1 h2 h3 hcq hfq hc2 hky hbu
     go_wp2_with fail
     have hHeld:Tval w w7.drew cs zeroV.toList (rowS cs (.slice lb v.list.length ld) s)∧Keep (w.heap.size+3) none wF w7.drew:=⟨HT7.out.drew,HK7.out⟩
     refine wp_region_T (S:=fun q=>Tval w q cs zeroV.toList (rowS cs (.slice lb v.list.length ld) s)∧Keep (w.heap.size+3) none wF q) 17 (by kernel_rfl) ?_
     refine wpAnyT_take (i:=0) (v:=.pointer (some ⟨w.heap.size+1+1,12,none⟩)) [17,15,1] 37 rfl rfl (by kernel_rfl) (by kernel_rfl) (fun _ _ _ h=>h) (Or.inl ⟨by kernel_rfl,fun u hu=>by go_simp⟩) (by assumption) ?_
     simp only [sq1,sq0]
     refine wpAnyT_take (i:=1) (v:=s) [17,15] 38 rfl rfl (by kernel_rfl) (by kernel_rfl) (fun _ _ _ h=>h) (Or.inl ⟨by kernel_rfl,fun u hu=>by have hc:=hu.1.res.cell (rowS_12 HC13.out);go_simp⟩) (by assumption) ?_
     simp only [sq1,sq0]
     refine wpAnyT_take (i:=2) (v:=.slice (some ⟨b,o,none⟩) F.length fc) [17,15,14,13,6,5,4] 39 rfl rfl (by kernel_rfl) (by kernel_rfl) (fun _ _ _ h=>h) (Or.inl ⟨by kernel_rfl,fun u hu=>by go_simp⟩) (by assumption) ?_
     simp only [sq1,sq0]
     refine wpAnyT_take (i:=3) (v:=.int .i64 k) [17,15,14,13,6,5,4] 40 rfl rfl (by kernel_rfl) (by kernel_rfl) (fun _ _ _ h=>h) (Or.inl ⟨by kernel_rfl,fun u hu=>by go_simp⟩) (by assumption) ?_
     simp only [sq1,sq0]
     refine wpAnyT_take (i:=4) (v:=.pointer (some ⟨b,o+k * 14,none⟩)) [17,15,14,13,6,5] 41 rfl rfl (by kernel_rfl) (by kernel_rfl) (fun _ _ _ h=>h) (Or.inl ⟨by kernel_rfl,fun u hu=>by go_simp⟩) (by assumption) ?_
     simp only [sq1,sq0]
     refine wpAnyT_take (i:=5) (v:=.pointer (some ⟨b,o+k * 14,none⟩)) [17,15,14,13,6] 42 rfl rfl (by kernel_rfl) (by kernel_rfl) (fun _ _ _ h=>h) (Or.inl ⟨by kernel_rfl,fun u hu=>by go_simp⟩) (by assumption) ?_
     simp only [sq1,sq0]
     refine wpAnyT_take (i:=6) (v:=.string ky) [17,15,14,13] 43 rfl rfl (by kernel_rfl) (by kernel_rfl) (fun _ _ _ h=>h) (Or.inl ⟨by kernel_rfl,fun u hu=>by have hc:=(cells_keep HC2.out hu.2 (by omega) HBB.out).get0' (v:=.string ky) rfl;go_simp⟩) (by assumption) ?_
     simp only [sq1,sq0]
     refine wpAnyT_take (i:=7) (v:=.slice (some ⟨b,o,none⟩) F.length fc) [17,15,14,13,12,11,10,9] 44 rfl rfl (by kernel_rfl) (by kernel_rfl) (fun _ _ _ h=>h) (Or.inl ⟨by kernel_rfl,fun u hu=>by go_simp⟩) (by assumption) ?_
     simp only [sq1,sq0]
     refine wpAnyT_take (i:=8) (v:=.int .i64 k) [17,15,14,13,12,11,10,9] 45 rfl rfl (by kernel_rfl) (by kernel_rfl) (fun _ _ _ h=>h) (Or.inl ⟨by kernel_rfl,fun u hu=>by go_simp⟩) (by assumption) ?_
     simp only [sq1,sq0]
     refine wpAnyT_take (i:=9) (v:=.pointer (some ⟨b,o+k * 14,none⟩)) [17,15,14,13,12,11,10] 46 rfl rfl (by kernel_rfl) (by kernel_rfl) (fun _ _ _ h=>h) (Or.inl ⟨by kernel_rfl,fun u hu=>by go_simp⟩) (by assumption) ?_
     simp only [sq1,sq0]
     refine wpAnyT_take (i:=10) (v:=.pointer (some ⟨b,o+k * 14+1,none⟩)) [17,15,14,13,12,11] 47 rfl rfl (by kernel_rfl) (by kernel_rfl) (fun _ _ _ h=>h) (Or.inl ⟨by kernel_rfl,fun u hu=>by go_simp⟩) (by assumption) ?_
     simp only [sq1,sq0]
     refine wpAnyT_take (i:=11) (v:=.agg cs1.toArray) [17,15,14,13,12] 48 rfl rfl (by kernel_rfl) (by kernel_rfl) (fun _ _ _ h=>h) ?_ (by assumption) ?_
     ·exact yieldsIf_load_mid (by kernel_rfl) 30 _ rfl b (o+k * 14+1) (by kernel_rfl) cs1 _ (fun u hu=>((cells_keep HC2.out hu.2 (by omega) HBB.out).tail).range) Tryz.underlying30 rfl hl1.out
     simp only [sq1,sq0]
     refine wpAnyT_one (i:=12) (by kernel_rfl) rfl (fun K hK=>?_)
     go_simp
     have HB7:=Hd (show Below B w w7.drew from hHeld.1.below.mono hB)
     refine (IH.out _ _ B N cs1 HFC.out hN (Nat.le_trans hB hHeld.1.below.size) (HV1.out.below (below_side HBW.out HB7.out (Nat.le_trans hsF hs7)))).mono ?_
     rintro e w5 ⟨cs2,rfl,hsafe,hb⟩
     have HS0:=Hd hsafe
     have HB5:=Hd (belowDrew hb)
     have hlen2:=(SrqR.here hsafe hb (Nat.le_trans hB hHeld.1.below.size)).len
     have HONE:=Hd (SrqR.here hsafe hb (Nat.le_trans hB hHeld.1.below.size)).oneCell
     have HLEN:=Hd hlen2
     have hT5:=hHeld.1.later hb
     have hK5:Keep (w.heap.size+3) none wF w5:=HK7.out.step (keep_below HB5.out (Nat.le_refl _)) (fun q _ h=>.inl h)
     refine hK.out _ _ (fun _=>⟨hT5,hK5⟩) (fun _=>?_)
     clear hK K hb hsafe hHeld
     have hfz1:=fold_zip1 ky cs2 hlen2
     have hfz2:=fold_zip2 ky cs2 hlen2
     refine wpAnyT_one (i:=13) (by kernel_rfl) rfl (fun K hK=>?_)
     go_simp
     refine hK.out _ _ (fun _=>⟨hT5,hK5⟩) (fun _=>?_)
     clear hK K
     refine wpAnyT_one (i:=14) (by kernel_rfl) rfl (fun K hK=>?_)
     go_simp
     refine hK.out _ _ (fun _=>⟨hT5.later (belowBox w5 _),hK5.step (keep_below (belowBox w5 _) (Nat.le_refl _)) (fun q _ h=>.inl h)⟩) (fun _=>?_)
     clear hK K
     have hs5:w7.heap.size≤w5.heap.size:=HB5.out.size
     have HO5:=Hd (own_below' HO.out HB5.out)
     refine wpAnyT_one (i:=15) (by kernel_rfl) rfl (fun K hK=>?_)
     refine step_append_lies _ rfl (.tmp 38) (.tmp 51) 28 rfl wF.heap.size 77 i1 (.agg z1) 14 184 Tryz.underlying28 FI.out FZ0.out FZ1.out FZ2.out FZS.out (by decide) _ _ _ rfl (HO5.out.alloc _) ⟨w5.heap.size,0,none⟩ 1 1 (.string ky::cs2) rfl (by rw [List.length_cons,HLEN.out]) ?c1 ?c2 (by decide) ?c3 ?c4 ?c5 _ rfl ?_
     case c1 =>
      intro j u hj
      rw [addr_add',World.cell?_alloc_new]
      simpa using hj
     case c2 =>
      intro u hu
      rcases List.mem_cons.1 hu with rfl | hu
      ·rfl
      ·exact HONE.out u hu
     case c3=>unfold maxLen;omega
     case c4=>omega
     case c5=>rw [World.size_alloc];omega
     intro g cap w6 hown6 hgrow6 hlie6 hlt6
     have hf:=step_factsN (L:=wF.heap.size) hs7 (fun q hq=>HO.out.lt q hq) HB5.out hgrow6 hlie6
     have HO6:=Hd hown6
     have hT6:Tval w w6 cs zeroV.toList (rowS cs (.slice lb v.list.length ld) s):=HT7.out.low (hf.2.2.mono (by omega))
     have hK6:Keep (w.heap.size+3) none wF w6:=⟨Nat.le_trans hs7 hf.2.2.size,fun q h1 h2 _=>(hf.2.2.block q h2).trans (HK7.out.2 q h1 h2 (by simp))⟩
     have HSF:=Hd hf
     have HG6:=Hd (show wF.heap.size≤g from (hown6.lt g rfl).1)
     refine hK.out _ _ (fun _=>⟨hT6,hK6⟩) (fun _=>?_)
     clear hK K hgrow6 hlie6 hown6 hf hlt6
     simp only [Act.put]
     refine wpAnyT_one (i:=16) (by kernel_rfl) rfl (fun K hK=>?_)
     go_simp
     refine hK.out _ _ (fun _=>⟨hT6,hK6⟩) (fun _=>?_)
     clear hK K
     have c12:=hT6.res.cell (rowS_12 HC13.out)
     have f12:=hT6.res.frozen 12
     have HT6:=Hd hT6
     have HK6:=Hd hK6
     clear hT5 hT6 hK5 hK6
     refine wpAnyT_one (i:=17) (by kernel_rfl) rfl (fun K hK=>?_)
     go_simp
     refine hK.out _ _ (fun h=>absurd rfl h) (fun _=>?_)
     clear hK K c12 f12
     refine wpAnyT_done (by kernel_rfl) ?_ _
     have HT8:=Hd (show Tval w (w6.setCell ⟨w.heap.size+1+1,12,none⟩ (.slice (some ⟨g,0,none⟩) (k+1) cap)) cs zeroV.toList (rowS cs (.slice lb v.list.length ld) (.slice (some ⟨g,0,none⟩) (k+1) cap)) from HT6.out.putOut (rowS_set12 _ _ _ _))
     have HS:=Hd (show Safe w7.heap.size none w5 (fun c=>Below B w c→ValD.At c c.heap.size N (sortD m F[k].2) cs2) from fun c hc hbc=>HS0.out c hc (below_side HB7.out hbc (Nat.le_trans HB5.out.size hc.1)))
     have HE8:=Hd (show EltF wF.heap.size (.slice (some ⟨g,0,none⟩) (k+1) cap) w (w6.setCell ⟨w.heap.size+1+1,12,none⟩ (.slice (some ⟨g,0,none⟩) (k+1) cap)) B N (F.map fun z=>(z.1,sortD m z.2)) (k+1) (xs++.string ky::cs2) from
      HCH.out.next HO.out.1 HLEN.out (by omega) rfl HSF.out.1 (fun hk2=>by
       rw [List.getElem_map]
       exact ⟨HKY.out.1,HKY.out.2,(HS.out.next HSF.out.2.1.1 HSF.out.2.1.2).wide hs7⟩))
     have HO8:=Hd (show (w6.setCell ⟨w.heap.size+1+1,12,none⟩ (.slice (some ⟨g,0,none⟩) (k+1) cap)).ownsRow wF.heap.size 77 14 (.slice (some ⟨g,0,none⟩) (k+1) cap) (k+1) (xs++.string ky::cs2) from own_blk HO6.out (fun q hq=>heap_setCell_other _ _ _ _ (by cases hq;have:=HG6.out;simp;omega)))
     have HK8:=Hd (show Keep (w.heap.size+3) none wF (w6.setCell ⟨w.heap.size+1+1,12,none⟩ (.slice (some ⟨g,0,none⟩) (k+1) cap)) from HK6.out.step (keep_setLow (by omega) _) (fun q _ h=>.inl h))
     clear hlen2 hfz1 hfz2
     go_wp2_with fail
     go_roundw
     case rel=>exact ⟨k+1,_,xs++.string ky::cs2,by omega,by go_num,HO8,HE8,HT8,HK8⟩
     case measure=>simp [intOf];omega
    ·obtain rfl:k=F.length:=by omega
     obtain ⟨fb,fd,hse,hls⟩:=fields_safeG (G:=fun c=>Below B w c) (N:=N) (L:=wF.heap.size) (l:=F.map fun z=>(z.1,sortD m z.2)) HO.out (by rw [List.length_map]) (Nat.le_refl _) (fun i hi=>HCH.out i hi (by simpa using hi))
     have HSE:=Hd hse
     have HFS:=Hd hls
     have hro:=Hd (show (Tryz.prog.info? 30).map (·.size)=some (rowS cs (.slice lb v.list.length ld) s).length by rw [rowS_len _ _ HC13.out];exact sizeV)
     have hr2:=Hd (row_size (rowS_len (.slice lb v.list.length ld) s HC13.out))
     have hr3:=Hd (row_zero (rowS_len (.slice lb v.list.length ld) s HC13.out))
     have hr4:=Hd (Go.all_oneCell_toArray (rowS_one (s:=.slice lb v.list.length ld) (f:=s) HC1.out rfl (by rw [hse];rfl)))
     obtain ⟨ro,hre⟩:∃ ro,ro=rowS cs (.slice lb v.list.length ld) s:=⟨_,rfl⟩
     rw [← hre] at hro hr2 hr3 hr4 HT7
     have HRE:=Hd hre
     clear hse hls hre
     go_wp2_with (first
      | ((with_reducible show wpList _ _ _ (⟨some 54,_,_,_,_,_⟩::_) _ _);refine wpList_load_mid rfl 30 _ rfl (w.heap.size+1+1) 0 rfl ro _ HT7.out.res.range Tryz.underlying30 rfl hro.out ?_)
      | ((with_reducible show wpList _ _ _ (⟨none,.store 30 (.tmp 2) (.tmp 54),_,_,_,_⟩::_) _ _);refine wpList_store_row rfl 30 _ _ rfl (w.heap.size+1) ro.toArray rfl rfl 30 zeroV HT7.out.two hr2.out hr3.out hr4.out ?_))
     refine bodyPost_ret (results_cell_row rfl _ _ (w.heap.size+1) 30 _ (0,0) _ rfl (setRow_heap _ _ _ _ _ _ HT7.out.two) Tryz.underlying30 rfl hr2.out) rfl ?_
     refine ⟨ro,rfl,fun c hc hbc=>?_,below_setRow HT7.out.below (by omega) _⟩
     have hk1:Keep (w.heap.size+3) none w7 c:=(keep_setRow w7 (w.heap.size+1) (w.heap.size+3) ro.toArray (by omega)).step (hc.wide (by omega)) (fun q _ h=>by cases h)
     have hF:=HFS.out c (hk1.wide (by omega)) hbc
     have hL:=HLF.out c (HK7.out.step hk1 (fun q _ h=>by cases h)) hbc
     have e1:=sortD_list m v
     have e2:=sortD_fields m v
     rw [← HFE.out] at e2
     rw [HRE.out,HSE.out,← e2,show v.list.length=(sortD (m+1) v).list.length by rw [e1,List.length_map]]
     refine rowS_at ld fd HV.out hbc ?_ (sortD_s m v) (by rw [e1,List.length_map]) (by rw [e2,List.length_map];exact HFL.out.symm) (by rw [e1];exact hL) (by rw [e2];exact hF)
     have h1:=HT7.out.size
     have h2:=hk1.1
     omega
theorem srt_all:∀ m,SrtD m
 | 0=>fun _ _ _ _ _ hf=>hf.elim
 | m+1=>srt_step m (srt_all m)
end Go.Proofs.YtmjfggadehkbjaaGreatDoor

/- datakitref07.Equal, datakitref37.in. -/
namespace Go.Proofs.YtmjfggadehkbjaaGreatDoor
open Go.RowKit Stb
theorem okC_fits:∀ (m:Nat) (v:ValD),okC m v→fitsV m v
 | 0,_,h=>h.elim
 | m+1,_,h=>⟨fun x hx=>okC_fits m x (h.2.2.2.2.2.1 x hx),fun z hz=>okC_fits m z.2 (h.2.2.2.2.2.2 z hz)⟩
theorem fits_sort:∀ (m:Nat) (v:ValD),fitsV m v→fitsV m (sortD m v)
 | 0,_,h=>h.elim
 | m+1,v,h=>by
   refine ⟨fun x hx=>?_,fun z hz=>?_⟩
   ·rw [sortD_list] at hx
    obtain ⟨y,hy,rfl⟩:=List.mem_map.1 hx
    exact fits_sort m y (h.1 y hy)
   ·rw [sortD_fields] at hz
    obtain ⟨y,hy,rfl⟩:=List.mem_map.1 hz
    exact fits_sort m y.2 (h.2 y ((sortF_perm v.fields).mem_iff.1 hy))
set_option maxRecDepth 100000 in
set_option maxHeartbeats 3200000 in
theorem equal_r (m:Nat) (v u:ValD) (w:World) (B N:Nat) (cs ds:List Value) (hf:fitsV m v) (hg:fitsV m u) (hN:N≤4294967296) (hB:B≤w.heap.size) (hv:ValD.At w B N v cs) (hu:ValD.At w B N u ds) :
 Calls Tryz.prog 131 #[.agg cs.toArray,.agg ds.toArray] w (YnR (eqvD m v u) w):=by
 have HF:=Hd hf
 have HG:=Hd hg
 have HV:=Hd hv
 have HU:=Hd hu
 have D0:=Hd (duo_boxes w cs ds 30)
 have hl1:=Hd (show (Tryz.prog.info? 30).map (·.size)=some cs.length by rw [hv.len];exact sizeV)
 have hl2:=Hd (show (Tryz.prog.info? 30).map (·.size)=some ds.length by rw [hu.len];exact sizeV)
 obtain ⟨r,hr⟩:∃ r,r=eqvD m v u:=⟨_,rfl⟩
 rw [← hr]
 have HR:=Hd hr
 clear hf hg hv hu hr
 go_enter Tryz.func131,Tryz.ntmps131
 go_wp2_with fail
 refine wp_region_held_drew (S:=fun q=>Duo w q cs ds) (by kernel_rfl) D0.out.drew (fun hHeld=>?_)
 refine wpAnyH_takeU (i:=0) (v:=.agg cs.toArray) 5 rfl rfl (by kernel_rfl) (by kernel_rfl) (by kernel_rfl) (fun _ _ _ h=>h) ?_ (by assumption) ?_
 ·exact yieldsIf_load_mid (by kernel_rfl) 30 _ rfl w.heap.size 0 (by kernel_rfl) cs _ (fun u hu=>hu.one.range) Tryz.underlying30 rfl hl1.out
 simp only [sq1,sq0]
 refine wpAnyH_takeU (i:=2) (v:=.agg ds.toArray) 7 rfl rfl (by kernel_rfl) (by kernel_rfl) (by kernel_rfl) (fun _ _ _ h=>h) ?_ (by assumption) ?_
 ·exact yieldsIf_load_mid (by kernel_rfl) 30 _ rfl (w.heap.size+1) 0 (by kernel_rfl) ds _ (fun u hu=>hu.two.range) Tryz.underlying30 rfl hl2.out
 simp only [sq1,sq0]
 refine rd1 1 rfl (fun K hK=>?_)
 go_simp
 refine (srt_all m v _ B N cs HF.out hN (Nat.le_trans hB hHeld.below.size) (HV.out.below (hHeld.below.mono hB))).mono ?_
 rintro e w2 ⟨cs2,rfl,hs2,hb2⟩
 have HA:=Hd (SrqR.here hs2 hb2 (Nat.le_trans hB hHeld.below.size))
 have hH2:=hHeld.later hb2
 refine hK.out _ _ hH2 (fun _=>?_)
 clear hK K hHeld hs2 hb2
 refine rd1 3 rfl (fun K hK=>?_)
 go_simp
 refine (srt_all m u _ B N ds HG.out hN (Nat.le_trans hB hH2.below.size) (HU.out.below (hH2.below.mono hB))).mono ?_
 rintro e w3 ⟨ds2,rfl,hs3,hb3⟩
 have HA3:=Hd ((HA.out.below hb3).mono hb3.size)
 have HB3:=Hd (SrqR.here hs3 hb3 (Nat.le_trans hB hH2.below.size))
 have hH3:=hH2.later hb3
 refine hK.out _ _ hH3 (fun _=>?_)
 clear hK K hH2 hs3 hb3 HA
 refine rd1 4 rfl (fun K hK=>?_)
 go_simp
 refine (smr_all m _ _ w3 w3.heap.size N cs2 ds2 (fits_sort m v HF.out) hN (Nat.le_refl _) HA3.out HB3.out).mono ?_
 rintro e w4 ⟨rfl,hb4⟩
 rw [same_sort,← HR.out]
 have hH4:=hH3.later hb4
 refine hK.out _ _ hH4 (fun _=>?_)
 clear hK K hH3 hb4
 refine rd1 5 rfl (fun K hK=>?_)
 go_simp
 refine hK.out _ _ hH4 (fun _=>?_)
 clear hK K
 refine wpAnyH_done (by kernel_rfl) ?_ _
 have HD:=Hd hH4.below
 clear hH4
 go_simp
 go_wp2_with fail
 go_ret
 exact yn_ret rfl HD.out
set_option maxRecDepth 100000 in
set_option maxHeartbeats 3200000 in
theorem in_r (m:Nat) (x:ValD) (l:List ValD) (la:Option Addr) (lc:Nat) (w:World) (B N:Nat) (cs:List Value) (hf:fitsV m x) (hg:∀ y∈l,fitsV m y) (hN:N≤4294967296) (hn:l.length≤N) (hB:B≤w.heap.size) (hx:ValD.At w B N x cs) (hl:ValsAt w B N l la) :
 Calls Tryz.prog 76 #[.agg cs.toArray,.slice la l.length lc] w (YnR (l.any (eqvD m x)) w):=by
 have HF:=Hd hf
 have HG:=Hd hg
 have HX:=Hd hx
 have HL:=Hd hl
 have hl1:=Hd (show (Tryz.prog.info? 30).map (·.size)=some cs.length by rw [hx.len];exact sizeV)
 have H0:=Hd (show Below w.heap.size w (w.alloc (.cells cs.toArray 30))∧RowT 30 (w.alloc (.cells cs.toArray 30)) w.heap.size cs from ⟨belowBox w _,RowT.new w 30 cs⟩)
 obtain ⟨P,hP⟩:∃ P,P=eqvD m x:=⟨_,rfl⟩
 rw [← hP]
 have HP:=Hd hP
 clear hf hg hx hl hP
 go_enter Tryz.func76,Tryz.ntmps76
 go_wp2_with fail
 go_simp
 go_loopw [5] (fun i wr=>∃ (k:Nat),k≤l.length∧i=.int .i64 k∧Hid (Below w.heap.size w wr∧RowT 30 wr w.heap.size cs)∧Hid (l.any P=(l.drop k).any P)) (fun i _=>l.length-(intOf i).toNat)
 case atStart=>exact ⟨0,by omega,rfl,H0,Hd rfl⟩
 case round =>
  clear H0
  obtain ⟨w4,rfl⟩:∃ w4,w4=wr:=⟨wr,rfl⟩
  obtain ⟨k,hk,rfl,HD,HE⟩:=hrel
  by_cases hlt:k<l.length
  case neg =>
   have HR:=Hd (show l.any P=false by rw [HE.out,List.drop_eq_nil_of_le (by omega)];rfl)
   go_wp2_with fail
   go_ret
   exact yn_ret HR.out HD.out.1
  obtain ⟨b,o,rfl,hb,hget⟩:=HL.out.get (by intro h;simp [h] at hlt)
  obtain ⟨cs1,h1,h2⟩:=hget k hlt
  have HC1:=Hd h1
  have HV1:=Hd h2
  have hl2:=Hd (show (Tryz.prog.info? 30).map (·.size)=some cs1.length by rw [h2.len];exact sizeV)
  have HFC:=Hd (HG.out l[k] (List.getElem_mem hlt))
  have HS:=Hd (show l.any P=(P l[k] || (l.drop (k+1)).any P) by rw [HE.out,List.drop_eq_getElem_cons hlt];rfl)
  obtain ⟨s,hs⟩:∃ s,s=P l[k]:=⟨_,rfl⟩
  rw [← hs] at HS
  rw [HP.out] at hs
  have HSE:=Hd hs
  clear h1 h2 hget hs
  go_wp2_with fail
  refine wp_region_held_drew (S:=fun q=>Below w.heap.size w q∧RowT 30 q w.heap.size cs) (by kernel_rfl) ⟨HD.out.1.trans (drewB _),HD.out.2.drew⟩ (fun hHeld=>?_)
  refine wpAnyH_takeU (i:=0) (v:=.agg cs.toArray) 12 rfl rfl (by kernel_rfl) (by kernel_rfl) (by kernel_rfl) (fun _ _ _ h=>h) ?_ (by assumption) ?_
  ·exact yieldsIf_load_mid (by kernel_rfl) 30 _ rfl w.heap.size 0 (by kernel_rfl) cs _ (fun u hu=>hu.2.range) Tryz.underlying30 rfl hl1.out
  simp only [sq1,sq0]
  refine wpAnyH_takeU (i:=1) (v:=.slice (some ⟨b,o,none⟩) l.length lc) 13 rfl rfl (by kernel_rfl) (by kernel_rfl) (by kernel_rfl) (fun _ _ _ h=>h) (Or.inl ⟨by kernel_rfl,fun u hu=>by go_simp⟩) (by assumption) ?_
  simp only [sq1,sq0]
  refine wpAnyH_takeU (i:=2) (v:=.int .i64 k) 14 rfl rfl (by kernel_rfl) (by kernel_rfl) (by kernel_rfl) (fun _ _ _ h=>h) (Or.inl ⟨by kernel_rfl,fun u hu=>by go_simp⟩) (by assumption) ?_
  simp only [sq1,sq0]
  refine wpAnyH_takeU (i:=3) (v:=.pointer (some ⟨b,o+k * 13,none⟩)) 15 rfl rfl (by kernel_rfl) (by kernel_rfl) (by kernel_rfl) (fun _ _ _ h=>h) (Or.inl ⟨by kernel_rfl,fun u hu=>by go_simp⟩) (by assumption) ?_
  simp only [sq1,sq0]
  refine wpAnyH_takeU (i:=4) (v:=.agg cs1.toArray) 16 rfl rfl (by kernel_rfl) (by kernel_rfl) (by kernel_rfl) (fun _ _ _ h=>h) ?_ (by assumption) ?_
  ·exact yieldsIf_load_mid (by kernel_rfl) 30 _ rfl b (o+k * 13) (by kernel_rfl) cs1 _ (fun u hu=>(HC1.out.below (hu.1.mono hB) hb).range) Tryz.underlying30 rfl hl2.out
  simp only [sq1,sq0]
  refine rd1 5 rfl (fun K hK=>?_)
  go_simp
  refine (equal_r m x l[k] _ B N cs cs1 HF.out HFC.out hN (Nat.le_trans hB hHeld.1.size) (HX.out.below (hHeld.1.mono hB)) (HV1.out.below (hHeld.1.mono hB))).mono ?_
  rintro e w5 ⟨rfl,hb5⟩
  rw [← HSE.out]
  have hH5:Below w.heap.size w w5∧RowT 30 w5 w.heap.size cs:=⟨belowThen hHeld.1 hb5,hHeld.2.then hb5⟩
  refine hK.out _ _ hH5 (fun _=>?_)
  clear hK K hHeld hb5
  refine wpAnyH_done (by kernel_rfl) ?_ _
  have HD5:=Hd hH5
  clear hH5
  cases s with
  | true =>
    have HR:=Hd (show l.any P=true by rw [HS.out];rfl)
    go_simp
    go_wp2_with fail
    go_ret
    exact yn_ret HR.out HD5.out.1
  | false =>
    go_simp
    go_wp2_with fail
    go_roundw
    case rel=>exact ⟨k+1,by omega,by go_num,HD5,Hd (by rw [HS.out];rfl)⟩
    case measure=>simp [intOf];omega
end Go.Proofs.YtmjfggadehkbjaaGreatDoor
