/- The reference's Arith but of differences. -/
import Derived.Test.YtmjfggadehkbjaaGreatDoorProg
import Derived.Test.YtmjfggadehkbjaaGreatDoorGA
import Derived.Test.YtmjfggadehkbjaaGreatDoorGB
import Derived.Test.YtmjfggadehkbjaaGreatDoorGC
import Derived.Test.YtmjfggadehkbjaaGreatDoorGD
import Derived.Test.YtmjfggadehkbjaaGreatDoorGF
import Derived.Test.YtmjfggadehkbjaaGreatDoorChkq
import Derived.Test.YtmjfggadehkbjaaGreatDoorXA
import Derived.Test.YtmjfggadehkbjaaGreatDoorXD
import Derived.Test.YtmjfggadehkbjaaGreatDoorXI
import Derived.Test.YtmjfggadehkbjaaGreatDoorXK
import Derived.Test.YtmjfggadehkbjaaGreatDoorAB
import Derived.Test.YtmjfggadehkbjaaGreatDoorAra09
import Derived.Test.YtmjfggadehkbjaaGreatDoorAra10
import Derived.Test.YtmjfggadehkbjaaGreatDoorAra11
import Derived.Test.YtmjfggadehkbjaaGreatDoorAD
import Derived.Test.YtmjfggadehkbjaaGreatDoorAE
import Derived.Test.YtmjfggadehkbjaaGreatDoorAH
import Derived.Test.YtmjfggadehkbjaaGreatDoorAI
import Derived.Test.YtmjfggadehkbjaaGreatDoorAL
namespace Go.Proofs.YtmjfggadehkbjaaGreatDoor
open Go.RowKit Stb
set_option maxRecDepth 100000 in
set_option maxHeartbeats 3200000 in
theorem quov_n_r (a b:ValD) (w:World) (B N:Nat) (cs ds:List Value) (hB:B≤w.heap.size) (hN:N≤4294967296) (hN2:120≤N) (ca:chkD a=0) (cb:chkD b=0) (fa:fitsV 60 a) (fb:fitsV 60 b) (hs:a.text.size+b.text.size≤N) (hl:a.list.length+b.list.length≤N) (hf:a.fields.length+b.fields.length≤N) (hts:a.text.size+1≤N) (hT:Lib.Utf8Tabs 1 2 w) (hm:∃ m:Int,w.cell? ⟨0,0,none⟩=some (.int .i64 m)) (hv:ValD.At w B N a cs) (hu:ValD.At w B N b ds) (ha:a.kind=2) (hb:b.kind=2) :
 Calls Tryz.prog 34 #[.agg cs.toArray,.agg ds.toArray] w (ResR B N (quoV a b) w):=by
 have hq:=And.intro (And.intro (And.intro (And.intro hB hN) hN2) (And.intro ca cb)) (And.intro (And.intro fa fb) (And.intro hs (And.intro hl hf)));have hq2:=And.intro hts (And.intro hT hm);clear hq hq2
 obtain ⟨ya,la,va,yc,lc,vc,hh⟩:=hv.has
 obtain ⟨yb,lb,vb,yd,ld,vd,hg⟩:=hu.has
 have HV:=Hd hv
 have HU:=Hd hu
 have HH:=Hd hh
 have HG:=Hd hg
 have hz1:=Hd (show (Tryz.prog.info? 30).map (·.size)=some cs.length by rw [hv.len];exact sizeV)
 have hz2:=Hd (show (Tryz.prog.info? 30).map (·.size)=some ds.length by rw [hu.len];exact sizeV)
 have DA:=Hd (okC_of 48 a 0 ca)
 have DB:=Hd (okC_of 48 b 0 cb)
 have CA:=Hd ca
 have CB:=Hd cb
 have FA:=Hd fa
 have FB:=Hd fb
 have HTB:=Hd hT
 have HMZ:=Hd hm
 clear hT hm
 have hT:=Hd (tval w cs ds [.int .i64 0,.bool false,.bool false,.string ⟨#[]⟩,.int .i64 0,.int .i64 0,.int .i64 0,.int .i64 0,.int .i64 0,.string ⟨#[]⟩,.slice none 0 0,.slice none 0 0,.slice none 0 0])
 have ek:=hT.out.one.cell hh.kind
 have fk:=hT.out.two.cell hg.kind
 have HQ:=Hd (show quoV a b=numQ (divD a.num b.num) by unfold quoV;rw [if_pos ⟨ha,hb⟩])
 rw [ha] at ek
 rw [hb] at fk
 clear ha hb
 have eneg:=hT.out.one.cell HH.out.neg
 have fneg:=hT.out.two.cell HG.out.neg
 have edigits:=hT.out.one.cell HH.out.digits
 have fdigits:=hT.out.two.cell HG.out.digits
 have eexp:=hT.out.one.cell HH.out.exp
 have fexp:=hT.out.two.cell HG.out.exp
 clear hv hu hh hg ca cb fa fb
 go_enter Tryz.func34,Tryz.ntmps34
 go_wp2_with fail
 refine (div_rr a.num b.num _ DA.out.2.1 DB.out.2.1).mono ?_
 rintro e wC ⟨rfl,hb⟩
 have hT2:=Hd (hT.out.later hb)
 clear hb hT
 have hT:=hT2
 clear hT2
 have HSM:=Hd (divD_small a.num b.num)
 obtain ⟨q,hq⟩:∃ q,q=divD a.num b.num:=⟨_,rfl⟩
 rw [← hq] at HSM HQ ⊢
 clear hq
 obtain ⟨qd,qk⟩:=q
 dsimp only
 go_wp2_with fail
 refine (numberq_r qd qk _ B N hN hN2 HSM.out (Nat.le_trans hB hT.out.below.size)).mono ?_
 rintro e wE ⟨xs,rfl,hsol,hb⟩
 obtain ⟨r,hr⟩:∃ r,r=numQ (qd,qk):=⟨_,rfl⟩
 rw [← hr] at hsol ⊢
 have HQ:=Hd (show quoV a b=r by rw [HQ.out,hr])
 have hlen:=hsol.here.len
 have AT:=Hd hsol.here
 have S1:=Hd hsol
 have hT1:=Hd (hT.out.later hb)
 clear hsol hb hr
 obtain ⟨rv,rk⟩:=r
 go_wp2_with ((with_reducible show wpList _ _ _ (⟨none,.store 30 (.tmp 4) _,_,_,_,_⟩::_) _ _);refine wpList_store_row rfl 30 _ _ rfl (w.heap.size+1+1) xs.toArray rfl rfl 30 zeroV hT1.out.res (row_size hlen) (row_zero hlen) (row_ones AT.out) ?_)
 refine bodyPost_ret (results_cell_row2 rfl _ _ (w.heap.size+1+1) 30 _ (0,0) _ rfl (hT1.out.put xs).res Tryz.underlying30 rfl (row_size hlen)) rfl ?_
 rw [HQ.out]
 exact res_intoB hB hT.out hT1.out S1.out
set_option maxRecDepth 100000 in
set_option maxHeartbeats 3200000 in
theorem quov_t_r (a b:ValD) (w:World) (B N:Nat) (cs ds:List Value) (hB:B≤w.heap.size) (hN:N≤4294967296) (hN2:120≤N) (ca:chkD a=0) (cb:chkD b=0) (fa:fitsV 60 a) (fb:fitsV 60 b) (hs:a.text.size+b.text.size≤N) (hl:a.list.length+b.list.length≤N) (hf:a.fields.length+b.fields.length≤N) (hts:a.text.size+1≤N) (hT:Lib.Utf8Tabs 1 2 w) (hm:∃ m:Int,w.cell? ⟨0,0,none⟩=some (.int .i64 m)) (hv:ValD.At w B N a cs) (hu:ValD.At w B N b ds) (ha:a.kind=4) (hb:b.kind=4) :
 Calls Tryz.prog 34 #[.agg cs.toArray,.agg ds.toArray] w (ResR B N (quoV a b) w):=by
 have hq:=And.intro (And.intro (And.intro (And.intro hB hN) hN2) (And.intro ca cb)) (And.intro (And.intro fa fb) (And.intro hs (And.intro hl hf)));have hq2:=And.intro hts (And.intro hT hm);clear hq hq2
 obtain ⟨ya,la,va,yc,lc,vc,hh⟩:=hv.has
 obtain ⟨yb,lb,vb,yd,ld,vd,hg⟩:=hu.has
 have HV:=Hd hv
 have HU:=Hd hu
 have HH:=Hd hh
 have HG:=Hd hg
 have hz1:=Hd (show (Tryz.prog.info? 30).map (·.size)=some cs.length by rw [hv.len];exact sizeV)
 have hz2:=Hd (show (Tryz.prog.info? 30).map (·.size)=some ds.length by rw [hu.len];exact sizeV)
 have DA:=Hd (okC_of 48 a 0 ca)
 have DB:=Hd (okC_of 48 b 0 cb)
 have CA:=Hd ca
 have CB:=Hd cb
 have FA:=Hd fa
 have FB:=Hd fb
 have HTB:=Hd hT
 have HMZ:=Hd hm
 clear hT hm
 have hT:=Hd (tval w cs ds [.int .i64 0,.bool false,.bool false,.string ⟨#[]⟩,.int .i64 0,.int .i64 0,.int .i64 0,.int .i64 0,.int .i64 0,.string ⟨#[]⟩,.slice none 0 0,.slice none 0 0,.slice none 0 0])
 have ek:=hT.out.one.cell hh.kind
 have fk:=hT.out.two.cell hg.kind
 have HQ:=Hd (show quoV a b=resD (lisD ((quoL a.text b.text).map textD)) by unfold quoV;rw [if_neg (by omega),if_pos ⟨ha,hb⟩])
 have HOA:=Hd (chkD_own ca)
 have HOB:=Hd (chkD_own cb)
 have HSZ:=Hd (quoL_sizes a.text b.text)
 have HLE:=Hd (quoL_len (t:=b.text) HOA.out.2.1)
 rw [ha] at ek
 rw [hb] at fk
 clear ha hb
 have etext:=hT.out.one.cell HH.out.text
 have ftext:=hT.out.two.cell HG.out.text
 clear hv hu hh hg ca cb fa fb
 go_enter Tryz.func34,Tryz.ntmps34
 go_wp2_with fail
 refine (parts37_all a.text b.text _ HOA.out.2.2.1 HOB.out.2.2.1 HOA.out.2.1).mono ?_
 rintro e wC ⟨pa,pc,rfl,h1,h2,h3,hb⟩
 have hT2:=Hd (hT.out.later hb)
 have HST:=Hd h3
 clear hb hT h1 h2 h3
 have hT:=hT2
 clear hT2
 obtain ⟨ql,hql⟩:∃ ql,ql=quoL a.text b.text:=⟨_,rfl⟩
 rw [← hql] at HST HSZ HLE HQ ⊢
 clear hql
 go_wp2_with fail
 refine (texts_ro ql pa pc _ N (by have:=HLE.out;omega) (fun x hx=>by have:=HSZ.out x hx;omega) HST.out).mono ?_
 rintro e wD ⟨ta,tc,rfl,hsl,hb⟩
 have hT2:=Hd (hT.out.later hb)
 have HSL:=Hd hsl
 have HSC:=Hd hT.out.size
 clear hb hT hsl
 have hT:=hT2
 clear hT2
 obtain ⟨vl,hvl⟩:∃ vl,vl=ql.map textD:=⟨_,rfl⟩
 have HVN:=Hd (show vl.length=ql.length by rw [hvl,List.length_map])
 have HVM:=Hd (show vl.length≤N by rw [HVN.out];have:=HLE.out;omega)
 rw [← hvl] at HSL HQ
 clear hvl
 go_wp2_with fail
 refine (list_rex vl ql.length HVN.out ta tc wD wD.heap.size N hN (by rw [← HVN.out];exact HVM.out) (Nat.le_refl _) (HSL.out 0).here).mono ?_
 rintro e wE ⟨hor,hb⟩
 have hT1:=Hd (hT.out.later hb)
 have HB3:=Hd hb
 clear hb
 rcases hor with ⟨hk,rfl⟩ | ⟨hk,rfl⟩
 ·have HQ2:=Hd (show quoV a b=(lisD vl,0) by rw [HQ.out];exact resD_ok hk)
  have hlen:(lisR vl ta tc).length=13:=rfl
  have ONE:=Hd (show ∀ v∈lisR vl ta tc,v.oneCell'=true from (lisD_at (B:=wD.heap.size) tc HVM.out (HSL.out 0).here).oneCell)
  clear hk
  go_wp2_with ((with_reducible show wpList _ _ _ (⟨none,.store 30 (.tmp 4) _,_,_,_,_⟩::_) _ _);refine wpList_store_row rfl 30 _ _ rfl (w.heap.size+1+1) (lisR vl ta tc).toArray rfl rfl 30 zeroV hT1.out.res (row_size hlen) (row_zero hlen) (Go.all_oneCell_toArray ONE.out) ?_)
  refine bodyPost_ret (results_cell_row2 rfl _ _ (w.heap.size+1+1) 30 _ (0,0) _ rfl (hT1.out.put (lisR vl ta tc)).res Tryz.underlying30 rfl (row_size hlen)) rfl ?_
  rw [HQ2.out]
  exact ⟨lisR vl ta tc,rfl,fun d hd=>lisD_at tc HVM.out (HSL.out B d ((apart_fin HB3.out (by omega) (by have:=HSC.out;omega) _).after hd (by have:=HSC.out;omega))),(hT1.out.put (lisR vl ta tc)).below⟩
 ·have HQ2:=Hd (show quoV a b=(zeroD,chkD (lisD vl)) by rw [HQ.out];unfold resD;rw [if_neg hk])
  obtain ⟨k,hk2⟩:∃ k,k=chkD (lisD vl):=⟨_,rfl⟩
  rw [← hk2] at HQ2 ⊢
  clear hk hk2 hT
  have hT:=hT1
  go_wp2_with ((with_reducible show wpList _ _ _ (⟨none,.store 30 (.tmp 4) _,_,_,_,_⟩::_) _ _);refine wpList_store_row rfl 30 _ _ rfl (w.heap.size+1+1) zeroV rfl rfl 30 zeroV hT.out.res (sizeZ) (rfl) (oneZ) ?_)
  refine bodyPost_ret (results_cell_row2 rfl _ _ (w.heap.size+1+1) 30 _ (0,0) _ rfl (hT.out.put zeroV.toList).res Tryz.underlying30 rfl sizeZ) rfl ?_
  exact zero_intoB hT.out (HQ2.out)
set_option maxRecDepth 100000 in
set_option maxHeartbeats 3200000 in
theorem quov_1_r (a b:ValD) (w:World) (B N:Nat) (cs ds:List Value) (hB:B≤w.heap.size) (hN:N≤4294967296) (hN2:120≤N) (ca:chkD a=0) (cb:chkD b=0) (fa:fitsV 60 a) (fb:fitsV 60 b) (hs:a.text.size+b.text.size≤N) (hl:a.list.length+b.list.length≤N) (hf:a.fields.length+b.fields.length≤N) (hts:a.text.size+1≤N) (hT:Lib.Utf8Tabs 1 2 w) (hm:∃ m:Int,w.cell? ⟨0,0,none⟩=some (.int .i64 m)) (hv:ValD.At w B N a cs) (hu:ValD.At w B N b ds) (ha:a.kind≠2) (hb:a.kind≠4) :
 Calls Tryz.prog 34 #[.agg cs.toArray,.agg ds.toArray] w (ResR B N (quoV a b) w):=by
 have hq:=And.intro (And.intro (And.intro (And.intro hB hN) hN2) (And.intro ca cb)) (And.intro (And.intro fa fb) (And.intro hs (And.intro hl hf)));have hq2:=And.intro hts (And.intro hT hm);clear hq hq2
 obtain ⟨ya,la,va,yc,lc,vc,hh⟩:=hv.has
 obtain ⟨yb,lb,vb,yd,ld,vd,hg⟩:=hu.has
 have HV:=Hd hv
 have HU:=Hd hu
 have HH:=Hd hh
 have HG:=Hd hg
 have hz1:=Hd (show (Tryz.prog.info? 30).map (·.size)=some cs.length by rw [hv.len];exact sizeV)
 have hz2:=Hd (show (Tryz.prog.info? 30).map (·.size)=some ds.length by rw [hu.len];exact sizeV)
 have DA:=Hd (okC_of 48 a 0 ca)
 have DB:=Hd (okC_of 48 b 0 cb)
 have CA:=Hd ca
 have CB:=Hd cb
 have FA:=Hd fa
 have FB:=Hd fb
 have HTB:=Hd hT
 have HMZ:=Hd hm
 clear hT hm
 have hT:=Hd (tval w cs ds [.int .i64 0,.bool false,.bool false,.string ⟨#[]⟩,.int .i64 0,.int .i64 0,.int .i64 0,.int .i64 0,.int .i64 0,.string ⟨#[]⟩,.slice none 0 0,.slice none 0 0,.slice none 0 0])
 have ek:=hT.out.one.cell hh.kind
 have fk:=hT.out.two.cell hg.kind
 have HQ:=Hd (show quoV a b=(zeroD,6) by unfold quoV;rw [if_neg (by omega),if_neg (by omega)])
 have ka:(a.kind==2)=false:=by simpa using ha
 have kb:(a.kind != 4)=true:=by simpa using hb
 clear ha hb
 clear hv hu hh hg ca cb fa fb
 go_enter Tryz.func34,Tryz.ntmps34
 go_wp2_with fail
 refine (none_ref 6 _).mono ?_
 rintro e wC ⟨rfl,hb⟩
 have hT2:=Hd (hT.out.later hb)
 clear hb hT
 have hT:=hT2
 clear hT2
 go_wp2_with ((with_reducible show wpList _ _ _ (⟨none,.store 30 (.tmp 4) _,_,_,_,_⟩::_) _ _);refine wpList_store_row rfl 30 _ _ rfl (w.heap.size+1+1) zeroV rfl rfl 30 zeroV hT.out.res (sizeZ) (rfl) (oneZ) ?_)
 refine bodyPost_ret (results_cell_row2 rfl _ _ (w.heap.size+1+1) 30 _ (0,0) _ rfl (hT.out.put zeroV.toList).res Tryz.underlying30 rfl sizeZ) rfl ?_
 exact zero_intoB hT.out (HQ.out)
set_option maxRecDepth 100000 in
set_option maxHeartbeats 3200000 in
theorem quov_2_r (a b:ValD) (w:World) (B N:Nat) (cs ds:List Value) (hB:B≤w.heap.size) (hN:N≤4294967296) (hN2:120≤N) (ca:chkD a=0) (cb:chkD b=0) (fa:fitsV 60 a) (fb:fitsV 60 b) (hs:a.text.size+b.text.size≤N) (hl:a.list.length+b.list.length≤N) (hf:a.fields.length+b.fields.length≤N) (hts:a.text.size+1≤N) (hT:Lib.Utf8Tabs 1 2 w) (hm:∃ m:Int,w.cell? ⟨0,0,none⟩=some (.int .i64 m)) (hv:ValD.At w B N a cs) (hu:ValD.At w B N b ds) (ha:a.kind=2) (hb:b.kind≠2) :
 Calls Tryz.prog 34 #[.agg cs.toArray,.agg ds.toArray] w (ResR B N (quoV a b) w):=by
 have hq:=And.intro (And.intro (And.intro (And.intro hB hN) hN2) (And.intro ca cb)) (And.intro (And.intro fa fb) (And.intro hs (And.intro hl hf)));have hq2:=And.intro hts (And.intro hT hm);clear hq hq2
 obtain ⟨ya,la,va,yc,lc,vc,hh⟩:=hv.has
 obtain ⟨yb,lb,vb,yd,ld,vd,hg⟩:=hu.has
 have HV:=Hd hv
 have HU:=Hd hu
 have HH:=Hd hh
 have HG:=Hd hg
 have hz1:=Hd (show (Tryz.prog.info? 30).map (·.size)=some cs.length by rw [hv.len];exact sizeV)
 have hz2:=Hd (show (Tryz.prog.info? 30).map (·.size)=some ds.length by rw [hu.len];exact sizeV)
 have DA:=Hd (okC_of 48 a 0 ca)
 have DB:=Hd (okC_of 48 b 0 cb)
 have CA:=Hd ca
 have CB:=Hd cb
 have FA:=Hd fa
 have FB:=Hd fb
 have HTB:=Hd hT
 have HMZ:=Hd hm
 clear hT hm
 have hT:=Hd (tval w cs ds [.int .i64 0,.bool false,.bool false,.string ⟨#[]⟩,.int .i64 0,.int .i64 0,.int .i64 0,.int .i64 0,.int .i64 0,.string ⟨#[]⟩,.slice none 0 0,.slice none 0 0,.slice none 0 0])
 have ek:=hT.out.one.cell hh.kind
 have fk:=hT.out.two.cell hg.kind
 have HQ:=Hd (show quoV a b=(zeroD,6) by unfold quoV;rw [if_neg (by omega),if_neg (by omega)])
 have ka:(b.kind==2)=false:=by simpa using hb
 rw [ha] at ek
 clear ha hb
 clear hv hu hh hg ca cb fa fb
 go_enter Tryz.func34,Tryz.ntmps34
 go_wp2_with fail
 refine (none_ref 6 _).mono ?_
 rintro e wC ⟨rfl,hb⟩
 have hT2:=Hd (hT.out.later hb)
 clear hb hT
 have hT:=hT2
 clear hT2
 go_wp2_with ((with_reducible show wpList _ _ _ (⟨none,.store 30 (.tmp 4) _,_,_,_,_⟩::_) _ _);refine wpList_store_row rfl 30 _ _ rfl (w.heap.size+1+1) zeroV rfl rfl 30 zeroV hT.out.res (sizeZ) (rfl) (oneZ) ?_)
 refine bodyPost_ret (results_cell_row2 rfl _ _ (w.heap.size+1+1) 30 _ (0,0) _ rfl (hT.out.put zeroV.toList).res Tryz.underlying30 rfl sizeZ) rfl ?_
 exact zero_intoB hT.out (HQ.out)
set_option maxRecDepth 100000 in
set_option maxHeartbeats 3200000 in
theorem quov_3_r (a b:ValD) (w:World) (B N:Nat) (cs ds:List Value) (hB:B≤w.heap.size) (hN:N≤4294967296) (hN2:120≤N) (ca:chkD a=0) (cb:chkD b=0) (fa:fitsV 60 a) (fb:fitsV 60 b) (hs:a.text.size+b.text.size≤N) (hl:a.list.length+b.list.length≤N) (hf:a.fields.length+b.fields.length≤N) (hts:a.text.size+1≤N) (hT:Lib.Utf8Tabs 1 2 w) (hm:∃ m:Int,w.cell? ⟨0,0,none⟩=some (.int .i64 m)) (hv:ValD.At w B N a cs) (hu:ValD.At w B N b ds) (ha:a.kind=4) (hb:b.kind≠4) :
 Calls Tryz.prog 34 #[.agg cs.toArray,.agg ds.toArray] w (ResR B N (quoV a b) w):=by
 have hq:=And.intro (And.intro (And.intro (And.intro hB hN) hN2) (And.intro ca cb)) (And.intro (And.intro fa fb) (And.intro hs (And.intro hl hf)));have hq2:=And.intro hts (And.intro hT hm);clear hq hq2
 obtain ⟨ya,la,va,yc,lc,vc,hh⟩:=hv.has
 obtain ⟨yb,lb,vb,yd,ld,vd,hg⟩:=hu.has
 have HV:=Hd hv
 have HU:=Hd hu
 have HH:=Hd hh
 have HG:=Hd hg
 have hz1:=Hd (show (Tryz.prog.info? 30).map (·.size)=some cs.length by rw [hv.len];exact sizeV)
 have hz2:=Hd (show (Tryz.prog.info? 30).map (·.size)=some ds.length by rw [hu.len];exact sizeV)
 have DA:=Hd (okC_of 48 a 0 ca)
 have DB:=Hd (okC_of 48 b 0 cb)
 have CA:=Hd ca
 have CB:=Hd cb
 have FA:=Hd fa
 have FB:=Hd fb
 have HTB:=Hd hT
 have HMZ:=Hd hm
 clear hT hm
 have hT:=Hd (tval w cs ds [.int .i64 0,.bool false,.bool false,.string ⟨#[]⟩,.int .i64 0,.int .i64 0,.int .i64 0,.int .i64 0,.int .i64 0,.string ⟨#[]⟩,.slice none 0 0,.slice none 0 0,.slice none 0 0])
 have ek:=hT.out.one.cell hh.kind
 have fk:=hT.out.two.cell hg.kind
 have HQ:=Hd (show quoV a b=(zeroD,6) by unfold quoV;rw [if_neg (by omega),if_neg (by omega)])
 have kb:(b.kind != 4)=true:=by simpa using hb
 rw [ha] at ek
 clear ha hb
 clear hv hu hh hg ca cb fa fb
 go_enter Tryz.func34,Tryz.ntmps34
 go_wp2_with fail
 refine (none_ref 6 _).mono ?_
 rintro e wC ⟨rfl,hb⟩
 have hT2:=Hd (hT.out.later hb)
 clear hb hT
 have hT:=hT2
 clear hT2
 go_wp2_with ((with_reducible show wpList _ _ _ (⟨none,.store 30 (.tmp 4) _,_,_,_,_⟩::_) _ _);refine wpList_store_row rfl 30 _ _ rfl (w.heap.size+1+1) zeroV rfl rfl 30 zeroV hT.out.res (sizeZ) (rfl) (oneZ) ?_)
 refine bodyPost_ret (results_cell_row2 rfl _ _ (w.heap.size+1+1) 30 _ (0,0) _ rfl (hT.out.put zeroV.toList).res Tryz.underlying30 rfl sizeZ) rfl ?_
 exact zero_intoB hT.out (HQ.out)
theorem quov_r (a b:ValD) (w:World) (B N:Nat) (cs ds:List Value) (hB:B≤w.heap.size) (hN:N≤4294967296) (hN2:120≤N) (ca:chkD a=0) (cb:chkD b=0) (fa:fitsV 60 a) (fb:fitsV 60 b) (hs:a.text.size+b.text.size≤N) (hl:a.list.length+b.list.length≤N) (hf:a.fields.length+b.fields.length≤N) (hts:a.text.size+1≤N) (hT:Lib.Utf8Tabs 1 2 w) (hm:∃ m:Int,w.cell? ⟨0,0,none⟩=some (.int .i64 m)) (hv:ValD.At w B N a cs) (hu:ValD.At w B N b ds) :
 Calls Tryz.prog 34 #[.agg cs.toArray,.agg ds.toArray] w (ResR B N (quoV a b) w):=by
 by_cases h1:a.kind=2
 ·by_cases h2:b.kind=2
  ·exact quov_n_r a b w B N cs ds hB hN hN2 ca cb fa fb hs hl hf hts hT hm hv hu h1 h2
  ·exact quov_2_r a b w B N cs ds hB hN hN2 ca cb fa fb hs hl hf hts hT hm hv hu h1 h2
 by_cases h3:a.kind=4
 ·by_cases h4:b.kind=4
  ·exact quov_t_r a b w B N cs ds hB hN hN2 ca cb fa fb hs hl hf hts hT hm hv hu h3 h4
  ·exact quov_3_r a b w B N cs ds hB hN hN2 ca cb fa fb hs hl hf hts hT hm hv hu h3 h4
 exact quov_1_r a b w B N cs ds hB hN hN2 ca cb fa fb hs hl hf hts hT hm hv hu h1 h3
set_option maxRecDepth 100000 in
set_option maxHeartbeats 3200000 in
theorem ar_pl_a_r (a b:ValD) (w:World) (B N:Nat) (cs ds:List Value) (hB:B≤w.heap.size) (hN:N≤4294967296) (hN2:120≤N) (ca:chkD a=0) (cb:chkD b=0) (fa:fitsV 60 a) (fb:fitsV 60 b) (hs:a.text.size+b.text.size≤N) (hl:a.list.length+b.list.length≤N) (hf:a.fields.length+b.fields.length≤N) (hts:a.text.size+1≤N) (hT:Lib.Utf8Tabs 1 2 w) (hm:∃ m:Int,w.cell? ⟨0,0,none⟩=some (.int .i64 m)) (hv:ValD.At w B N a cs) (hu:ValD.At w B N b ds) (ha:a.kind≠2) (hb:True) :
 Calls Tryz.prog 12 #[.string ⟨#[43]⟩,.agg cs.toArray,.agg ds.toArray] w (ResR B N (plusV a b) w):=by
 have hq:=And.intro (And.intro (And.intro (And.intro hB hN) hN2) (And.intro ca cb)) (And.intro (And.intro fa fb) (And.intro hs (And.intro hl hf)));have hq2:=And.intro hts (And.intro hT hm);clear hq hq2
 obtain ⟨ya,la,va,yc,lc,vc,hh⟩:=hv.has
 obtain ⟨yb,lb,vb,yd,ld,vd,hg⟩:=hu.has
 have HV:=Hd hv
 have HU:=Hd hu
 have HH:=Hd hh
 have HG:=Hd hg
 have hz1:=Hd (show (Tryz.prog.info? 30).map (·.size)=some cs.length by rw [hv.len];exact sizeV)
 have hz2:=Hd (show (Tryz.prog.info? 30).map (·.size)=some ds.length by rw [hu.len];exact sizeV)
 have DA:=Hd (okC_of 48 a 0 ca)
 have DB:=Hd (okC_of 48 b 0 cb)
 have CA:=Hd ca
 have CB:=Hd cb
 have FA:=Hd fa
 have FB:=Hd fb
 have HTB:=Hd hT
 have HMZ:=Hd hm
 clear hT hm
 have hT:=Hd (tval w cs ds [.int .i64 0,.bool false,.bool false,.string ⟨#[]⟩,.int .i64 0,.int .i64 0,.int .i64 0,.int .i64 0,.int .i64 0,.string ⟨#[]⟩,.slice none 0 0,.slice none 0 0,.slice none 0 0])
 have ek:=hT.out.one.cell hh.kind
 have fk:=hT.out.two.cell hg.kind
 have hq:=And.intro ha hb;clear hq
 have ka:(a.kind==2)=false:=by simpa using ha
 clear ha hb
 clear hv hu hh hg ca cb fa fb
 go_enter Tryz.func12,Tryz.ntmps12
 go_wp2_with (first | ((with_reducible show wpList _ _ _ (⟨some 20,_,_,_,_,_⟩::_) _ _);refine wpList_load_mid rfl 30 _ rfl (w.heap.size) 0 rfl cs _ hT.out.one.range Tryz.underlying30 rfl hz1.out ?_) | ((with_reducible show wpList _ _ _ (⟨some 21,_,_,_,_,_⟩::_) _ _);refine wpList_load_mid rfl 30 _ rfl (w.heap.size+1) 0 rfl ds _ hT.out.two.range Tryz.underlying30 rfl hz2.out ?_))
 refine (plusvb_r a b _ B N cs ds (Nat.le_trans hB hT.out.below.size) hN hN2 CA.out CB.out FA.out FB.out hs hl hf (HV.out.below (hT.out.below.mono hB)) (HU.out.below (hT.out.below.mono hB))).mono ?_
 rintro e wE ⟨xs,rfl,hsol,hb⟩
 obtain ⟨r,hr⟩:∃ r,r=plusV a b:=⟨_,rfl⟩
 rw [← hr] at hsol ⊢
 have HQ:=Hd (show plusV a b=r from hr.symm)
 have hlen:=hsol.here.len
 have AT:=Hd hsol.here
 have S1:=Hd hsol
 have hT1:=Hd (hT.out.later hb)
 clear hsol hb hr
 obtain ⟨rv,rk⟩:=r
 go_wp2_with ((with_reducible show wpList _ _ _ (⟨none,.store 30 (.tmp 6) _,_,_,_,_⟩::_) _ _);refine wpList_store_row rfl 30 _ _ rfl (w.heap.size+1+1) xs.toArray rfl rfl 30 zeroV hT1.out.res (row_size hlen) (row_zero hlen) (row_ones AT.out) ?_)
 refine bodyPost_ret (results_cell_row2 rfl _ _ (w.heap.size+1+1) 30 _ (0,0) _ rfl (hT1.out.put xs).res Tryz.underlying30 rfl (row_size hlen)) rfl ?_
 rw [HQ.out]
 exact res_intoB hB hT.out hT1.out S1.out
set_option maxRecDepth 100000 in
set_option maxHeartbeats 3200000 in
theorem ar_pl_b_r (a b:ValD) (w:World) (B N:Nat) (cs ds:List Value) (hB:B≤w.heap.size) (hN:N≤4294967296) (hN2:120≤N) (ca:chkD a=0) (cb:chkD b=0) (fa:fitsV 60 a) (fb:fitsV 60 b) (hs:a.text.size+b.text.size≤N) (hl:a.list.length+b.list.length≤N) (hf:a.fields.length+b.fields.length≤N) (hts:a.text.size+1≤N) (hT:Lib.Utf8Tabs 1 2 w) (hm:∃ m:Int,w.cell? ⟨0,0,none⟩=some (.int .i64 m)) (hv:ValD.At w B N a cs) (hu:ValD.At w B N b ds) (ha:a.kind=2) (hb:b.kind≠2) :
 Calls Tryz.prog 12 #[.string ⟨#[43]⟩,.agg cs.toArray,.agg ds.toArray] w (ResR B N (plusV a b) w):=by
 have hq:=And.intro (And.intro (And.intro (And.intro hB hN) hN2) (And.intro ca cb)) (And.intro (And.intro fa fb) (And.intro hs (And.intro hl hf)));have hq2:=And.intro hts (And.intro hT hm);clear hq hq2
 obtain ⟨ya,la,va,yc,lc,vc,hh⟩:=hv.has
 obtain ⟨yb,lb,vb,yd,ld,vd,hg⟩:=hu.has
 have HV:=Hd hv
 have HU:=Hd hu
 have HH:=Hd hh
 have HG:=Hd hg
 have hz1:=Hd (show (Tryz.prog.info? 30).map (·.size)=some cs.length by rw [hv.len];exact sizeV)
 have hz2:=Hd (show (Tryz.prog.info? 30).map (·.size)=some ds.length by rw [hu.len];exact sizeV)
 have DA:=Hd (okC_of 48 a 0 ca)
 have DB:=Hd (okC_of 48 b 0 cb)
 have CA:=Hd ca
 have CB:=Hd cb
 have FA:=Hd fa
 have FB:=Hd fb
 have HTB:=Hd hT
 have HMZ:=Hd hm
 clear hT hm
 have hT:=Hd (tval w cs ds [.int .i64 0,.bool false,.bool false,.string ⟨#[]⟩,.int .i64 0,.int .i64 0,.int .i64 0,.int .i64 0,.int .i64 0,.string ⟨#[]⟩,.slice none 0 0,.slice none 0 0,.slice none 0 0])
 have ek:=hT.out.one.cell hh.kind
 have fk:=hT.out.two.cell hg.kind
 have hq:=And.intro ha hb;clear hq
 have ka:(b.kind==2)=false:=by simpa using hb
 rw [ha] at ek
 clear ha hb
 clear hv hu hh hg ca cb fa fb
 go_enter Tryz.func12,Tryz.ntmps12
 go_wp2_with (first | ((with_reducible show wpList _ _ _ (⟨some 20,_,_,_,_,_⟩::_) _ _);refine wpList_load_mid rfl 30 _ rfl (w.heap.size) 0 rfl cs _ hT.out.one.range Tryz.underlying30 rfl hz1.out ?_) | ((with_reducible show wpList _ _ _ (⟨some 21,_,_,_,_,_⟩::_) _ _);refine wpList_load_mid rfl 30 _ rfl (w.heap.size+1) 0 rfl ds _ hT.out.two.range Tryz.underlying30 rfl hz2.out ?_))
 refine (plusvb_r a b _ B N cs ds (Nat.le_trans hB hT.out.below.size) hN hN2 CA.out CB.out FA.out FB.out hs hl hf (HV.out.below (hT.out.below.mono hB)) (HU.out.below (hT.out.below.mono hB))).mono ?_
 rintro e wE ⟨xs,rfl,hsol,hb⟩
 obtain ⟨r,hr⟩:∃ r,r=plusV a b:=⟨_,rfl⟩
 rw [← hr] at hsol ⊢
 have HQ:=Hd (show plusV a b=r from hr.symm)
 have hlen:=hsol.here.len
 have AT:=Hd hsol.here
 have S1:=Hd hsol
 have hT1:=Hd (hT.out.later hb)
 clear hsol hb hr
 obtain ⟨rv,rk⟩:=r
 go_wp2_with ((with_reducible show wpList _ _ _ (⟨none,.store 30 (.tmp 6) _,_,_,_,_⟩::_) _ _);refine wpList_store_row rfl 30 _ _ rfl (w.heap.size+1+1) xs.toArray rfl rfl 30 zeroV hT1.out.res (row_size hlen) (row_zero hlen) (row_ones AT.out) ?_)
 refine bodyPost_ret (results_cell_row2 rfl _ _ (w.heap.size+1+1) 30 _ (0,0) _ rfl (hT1.out.put xs).res Tryz.underlying30 rfl (row_size hlen)) rfl ?_
 rw [HQ.out]
 exact res_intoB hB hT.out hT1.out S1.out
set_option maxRecDepth 100000 in
set_option maxHeartbeats 3200000 in
theorem ar_pl_c_r (a b:ValD) (w:World) (B N:Nat) (cs ds:List Value) (hB:B≤w.heap.size) (hN:N≤4294967296) (hN2:120≤N) (ca:chkD a=0) (cb:chkD b=0) (fa:fitsV 60 a) (fb:fitsV 60 b) (hs:a.text.size+b.text.size≤N) (hl:a.list.length+b.list.length≤N) (hf:a.fields.length+b.fields.length≤N) (hts:a.text.size+1≤N) (hT:Lib.Utf8Tabs 1 2 w) (hm:∃ m:Int,w.cell? ⟨0,0,none⟩=some (.int .i64 m)) (hv:ValD.At w B N a cs) (hu:ValD.At w B N b ds) (ha:a.kind=2) (hb:b.kind=2) :
 Calls Tryz.prog 12 #[.string ⟨#[43]⟩,.agg cs.toArray,.agg ds.toArray] w (ResR B N (plusV a b) w):=by
 have hq:=And.intro (And.intro (And.intro (And.intro hB hN) hN2) (And.intro ca cb)) (And.intro (And.intro fa fb) (And.intro hs (And.intro hl hf)));have hq2:=And.intro hts (And.intro hT hm);clear hq hq2
 obtain ⟨ya,la,va,yc,lc,vc,hh⟩:=hv.has
 obtain ⟨yb,lb,vb,yd,ld,vd,hg⟩:=hu.has
 have HV:=Hd hv
 have HU:=Hd hu
 have HH:=Hd hh
 have HG:=Hd hg
 have hz1:=Hd (show (Tryz.prog.info? 30).map (·.size)=some cs.length by rw [hv.len];exact sizeV)
 have hz2:=Hd (show (Tryz.prog.info? 30).map (·.size)=some ds.length by rw [hu.len];exact sizeV)
 have DA:=Hd (okC_of 48 a 0 ca)
 have DB:=Hd (okC_of 48 b 0 cb)
 have CA:=Hd ca
 have CB:=Hd cb
 have FA:=Hd fa
 have FB:=Hd fb
 have HTB:=Hd hT
 have HMZ:=Hd hm
 clear hT hm
 have hT:=Hd (tval w cs ds [.int .i64 0,.bool false,.bool false,.string ⟨#[]⟩,.int .i64 0,.int .i64 0,.int .i64 0,.int .i64 0,.int .i64 0,.string ⟨#[]⟩,.slice none 0 0,.slice none 0 0,.slice none 0 0])
 have ek:=hT.out.one.cell hh.kind
 have fk:=hT.out.two.cell hg.kind
 have hq:=And.intro ha hb;clear hq
 rw [ha] at ek
 rw [hb] at fk
 clear ha hb
 clear hv hu hh hg ca cb fa fb
 go_enter Tryz.func12,Tryz.ntmps12
 go_wp2_with (first | ((with_reducible show wpList _ _ _ (⟨some 20,_,_,_,_,_⟩::_) _ _);refine wpList_load_mid rfl 30 _ rfl (w.heap.size) 0 rfl cs _ hT.out.one.range Tryz.underlying30 rfl hz1.out ?_) | ((with_reducible show wpList _ _ _ (⟨some 21,_,_,_,_,_⟩::_) _ _);refine wpList_load_mid rfl 30 _ rfl (w.heap.size+1) 0 rfl ds _ hT.out.two.range Tryz.underlying30 rfl hz2.out ?_))
 refine (plusvb_r a b _ B N cs ds (Nat.le_trans hB hT.out.below.size) hN hN2 CA.out CB.out FA.out FB.out hs hl hf (HV.out.below (hT.out.below.mono hB)) (HU.out.below (hT.out.below.mono hB))).mono ?_
 rintro e wE ⟨xs,rfl,hsol,hb⟩
 obtain ⟨r,hr⟩:∃ r,r=plusV a b:=⟨_,rfl⟩
 rw [← hr] at hsol ⊢
 have HQ:=Hd (show plusV a b=r from hr.symm)
 have hlen:=hsol.here.len
 have AT:=Hd hsol.here
 have S1:=Hd hsol
 have hT1:=Hd (hT.out.later hb)
 clear hsol hb hr
 obtain ⟨rv,rk⟩:=r
 go_wp2_with ((with_reducible show wpList _ _ _ (⟨none,.store 30 (.tmp 6) _,_,_,_,_⟩::_) _ _);refine wpList_store_row rfl 30 _ _ rfl (w.heap.size+1+1) xs.toArray rfl rfl 30 zeroV hT1.out.res (row_size hlen) (row_zero hlen) (row_ones AT.out) ?_)
 refine bodyPost_ret (results_cell_row2 rfl _ _ (w.heap.size+1+1) 30 _ (0,0) _ rfl (hT1.out.put xs).res Tryz.underlying30 rfl (row_size hlen)) rfl ?_
 rw [HQ.out]
 exact res_intoB hB hT.out hT1.out S1.out
set_option maxRecDepth 100000 in
set_option maxHeartbeats 3200000 in
theorem ar_qu_a_r (a b:ValD) (w:World) (B N:Nat) (cs ds:List Value) (hB:B≤w.heap.size) (hN:N≤4294967296) (hN2:120≤N) (ca:chkD a=0) (cb:chkD b=0) (fa:fitsV 60 a) (fb:fitsV 60 b) (hs:a.text.size+b.text.size≤N) (hl:a.list.length+b.list.length≤N) (hf:a.fields.length+b.fields.length≤N) (hts:a.text.size+1≤N) (hT:Lib.Utf8Tabs 1 2 w) (hm:∃ m:Int,w.cell? ⟨0,0,none⟩=some (.int .i64 m)) (hv:ValD.At w B N a cs) (hu:ValD.At w B N b ds) (ha:a.kind≠2) (hb:True) :
 Calls Tryz.prog 12 #[.string ⟨#[47]⟩,.agg cs.toArray,.agg ds.toArray] w (ResR B N (quoV a b) w):=by
 have hq:=And.intro (And.intro (And.intro (And.intro hB hN) hN2) (And.intro ca cb)) (And.intro (And.intro fa fb) (And.intro hs (And.intro hl hf)));have hq2:=And.intro hts (And.intro hT hm);clear hq hq2
 obtain ⟨ya,la,va,yc,lc,vc,hh⟩:=hv.has
 obtain ⟨yb,lb,vb,yd,ld,vd,hg⟩:=hu.has
 have HV:=Hd hv
 have HU:=Hd hu
 have HH:=Hd hh
 have HG:=Hd hg
 have hz1:=Hd (show (Tryz.prog.info? 30).map (·.size)=some cs.length by rw [hv.len];exact sizeV)
 have hz2:=Hd (show (Tryz.prog.info? 30).map (·.size)=some ds.length by rw [hu.len];exact sizeV)
 have DA:=Hd (okC_of 48 a 0 ca)
 have DB:=Hd (okC_of 48 b 0 cb)
 have CA:=Hd ca
 have CB:=Hd cb
 have FA:=Hd fa
 have FB:=Hd fb
 have HTB:=Hd hT
 have HMZ:=Hd hm
 clear hT hm
 have hT:=Hd (tval w cs ds [.int .i64 0,.bool false,.bool false,.string ⟨#[]⟩,.int .i64 0,.int .i64 0,.int .i64 0,.int .i64 0,.int .i64 0,.string ⟨#[]⟩,.slice none 0 0,.slice none 0 0,.slice none 0 0])
 have ek:=hT.out.one.cell hh.kind
 have fk:=hT.out.two.cell hg.kind
 have hq:=And.intro ha hb;clear hq
 have ka:(a.kind==2)=false:=by simpa using ha
 clear ha hb
 clear hv hu hh hg ca cb fa fb
 go_enter Tryz.func12,Tryz.ntmps12
 go_wp2_with (first | ((with_reducible show wpList _ _ _ (⟨some 34,_,_,_,_,_⟩::_) _ _);refine wpList_load_mid rfl 30 _ rfl (w.heap.size) 0 rfl cs _ hT.out.one.range Tryz.underlying30 rfl hz1.out ?_) | ((with_reducible show wpList _ _ _ (⟨some 35,_,_,_,_,_⟩::_) _ _);refine wpList_load_mid rfl 30 _ rfl (w.heap.size+1) 0 rfl ds _ hT.out.two.range Tryz.underlying30 rfl hz2.out ?_))
 refine (quov_r a b _ B N cs ds (Nat.le_trans hB hT.out.below.size) hN hN2 CA.out CB.out FA.out FB.out hs hl hf hts (tabs_below HTB.out hT.out.below) (zero_cell HMZ.out hT.out.below) (HV.out.below (hT.out.below.mono hB)) (HU.out.below (hT.out.below.mono hB))).mono ?_
 rintro e wE ⟨xs,rfl,hsol,hb⟩
 obtain ⟨r,hr⟩:∃ r,r=quoV a b:=⟨_,rfl⟩
 rw [← hr] at hsol ⊢
 have HQ:=Hd (show quoV a b=r from hr.symm)
 have hlen:=hsol.here.len
 have AT:=Hd hsol.here
 have S1:=Hd hsol
 have hT1:=Hd (hT.out.later hb)
 clear hsol hb hr
 obtain ⟨rv,rk⟩:=r
 go_wp2_with ((with_reducible show wpList _ _ _ (⟨none,.store 30 (.tmp 6) _,_,_,_,_⟩::_) _ _);refine wpList_store_row rfl 30 _ _ rfl (w.heap.size+1+1) xs.toArray rfl rfl 30 zeroV hT1.out.res (row_size hlen) (row_zero hlen) (row_ones AT.out) ?_)
 refine bodyPost_ret (results_cell_row2 rfl _ _ (w.heap.size+1+1) 30 _ (0,0) _ rfl (hT1.out.put xs).res Tryz.underlying30 rfl (row_size hlen)) rfl ?_
 rw [HQ.out]
 exact res_intoB hB hT.out hT1.out S1.out
set_option maxRecDepth 100000 in
set_option maxHeartbeats 3200000 in
theorem ar_qu_b_r (a b:ValD) (w:World) (B N:Nat) (cs ds:List Value) (hB:B≤w.heap.size) (hN:N≤4294967296) (hN2:120≤N) (ca:chkD a=0) (cb:chkD b=0) (fa:fitsV 60 a) (fb:fitsV 60 b) (hs:a.text.size+b.text.size≤N) (hl:a.list.length+b.list.length≤N) (hf:a.fields.length+b.fields.length≤N) (hts:a.text.size+1≤N) (hT:Lib.Utf8Tabs 1 2 w) (hm:∃ m:Int,w.cell? ⟨0,0,none⟩=some (.int .i64 m)) (hv:ValD.At w B N a cs) (hu:ValD.At w B N b ds) (ha:a.kind=2) (hb:b.kind≠2) :
 Calls Tryz.prog 12 #[.string ⟨#[47]⟩,.agg cs.toArray,.agg ds.toArray] w (ResR B N (quoV a b) w):=by
 have hq:=And.intro (And.intro (And.intro (And.intro hB hN) hN2) (And.intro ca cb)) (And.intro (And.intro fa fb) (And.intro hs (And.intro hl hf)));have hq2:=And.intro hts (And.intro hT hm);clear hq hq2
 obtain ⟨ya,la,va,yc,lc,vc,hh⟩:=hv.has
 obtain ⟨yb,lb,vb,yd,ld,vd,hg⟩:=hu.has
 have HV:=Hd hv
 have HU:=Hd hu
 have HH:=Hd hh
 have HG:=Hd hg
 have hz1:=Hd (show (Tryz.prog.info? 30).map (·.size)=some cs.length by rw [hv.len];exact sizeV)
 have hz2:=Hd (show (Tryz.prog.info? 30).map (·.size)=some ds.length by rw [hu.len];exact sizeV)
 have DA:=Hd (okC_of 48 a 0 ca)
 have DB:=Hd (okC_of 48 b 0 cb)
 have CA:=Hd ca
 have CB:=Hd cb
 have FA:=Hd fa
 have FB:=Hd fb
 have HTB:=Hd hT
 have HMZ:=Hd hm
 clear hT hm
 have hT:=Hd (tval w cs ds [.int .i64 0,.bool false,.bool false,.string ⟨#[]⟩,.int .i64 0,.int .i64 0,.int .i64 0,.int .i64 0,.int .i64 0,.string ⟨#[]⟩,.slice none 0 0,.slice none 0 0,.slice none 0 0])
 have ek:=hT.out.one.cell hh.kind
 have fk:=hT.out.two.cell hg.kind
 have hq:=And.intro ha hb;clear hq
 have ka:(b.kind==2)=false:=by simpa using hb
 rw [ha] at ek
 clear ha hb
 clear hv hu hh hg ca cb fa fb
 go_enter Tryz.func12,Tryz.ntmps12
 go_wp2_with (first | ((with_reducible show wpList _ _ _ (⟨some 34,_,_,_,_,_⟩::_) _ _);refine wpList_load_mid rfl 30 _ rfl (w.heap.size) 0 rfl cs _ hT.out.one.range Tryz.underlying30 rfl hz1.out ?_) | ((with_reducible show wpList _ _ _ (⟨some 35,_,_,_,_,_⟩::_) _ _);refine wpList_load_mid rfl 30 _ rfl (w.heap.size+1) 0 rfl ds _ hT.out.two.range Tryz.underlying30 rfl hz2.out ?_))
 refine (quov_r a b _ B N cs ds (Nat.le_trans hB hT.out.below.size) hN hN2 CA.out CB.out FA.out FB.out hs hl hf hts (tabs_below HTB.out hT.out.below) (zero_cell HMZ.out hT.out.below) (HV.out.below (hT.out.below.mono hB)) (HU.out.below (hT.out.below.mono hB))).mono ?_
 rintro e wE ⟨xs,rfl,hsol,hb⟩
 obtain ⟨r,hr⟩:∃ r,r=quoV a b:=⟨_,rfl⟩
 rw [← hr] at hsol ⊢
 have HQ:=Hd (show quoV a b=r from hr.symm)
 have hlen:=hsol.here.len
 have AT:=Hd hsol.here
 have S1:=Hd hsol
 have hT1:=Hd (hT.out.later hb)
 clear hsol hb hr
 obtain ⟨rv,rk⟩:=r
 go_wp2_with ((with_reducible show wpList _ _ _ (⟨none,.store 30 (.tmp 6) _,_,_,_,_⟩::_) _ _);refine wpList_store_row rfl 30 _ _ rfl (w.heap.size+1+1) xs.toArray rfl rfl 30 zeroV hT1.out.res (row_size hlen) (row_zero hlen) (row_ones AT.out) ?_)
 refine bodyPost_ret (results_cell_row2 rfl _ _ (w.heap.size+1+1) 30 _ (0,0) _ rfl (hT1.out.put xs).res Tryz.underlying30 rfl (row_size hlen)) rfl ?_
 rw [HQ.out]
 exact res_intoB hB hT.out hT1.out S1.out
set_option maxRecDepth 100000 in
set_option maxHeartbeats 3200000 in
theorem ar_qu_c_r (a b:ValD) (w:World) (B N:Nat) (cs ds:List Value) (hB:B≤w.heap.size) (hN:N≤4294967296) (hN2:120≤N) (ca:chkD a=0) (cb:chkD b=0) (fa:fitsV 60 a) (fb:fitsV 60 b) (hs:a.text.size+b.text.size≤N) (hl:a.list.length+b.list.length≤N) (hf:a.fields.length+b.fields.length≤N) (hts:a.text.size+1≤N) (hT:Lib.Utf8Tabs 1 2 w) (hm:∃ m:Int,w.cell? ⟨0,0,none⟩=some (.int .i64 m)) (hv:ValD.At w B N a cs) (hu:ValD.At w B N b ds) (ha:a.kind=2) (hb:b.kind=2) :
 Calls Tryz.prog 12 #[.string ⟨#[47]⟩,.agg cs.toArray,.agg ds.toArray] w (ResR B N (quoV a b) w):=by
 have hq:=And.intro (And.intro (And.intro (And.intro hB hN) hN2) (And.intro ca cb)) (And.intro (And.intro fa fb) (And.intro hs (And.intro hl hf)));have hq2:=And.intro hts (And.intro hT hm);clear hq hq2
 obtain ⟨ya,la,va,yc,lc,vc,hh⟩:=hv.has
 obtain ⟨yb,lb,vb,yd,ld,vd,hg⟩:=hu.has
 have HV:=Hd hv
 have HU:=Hd hu
 have HH:=Hd hh
 have HG:=Hd hg
 have hz1:=Hd (show (Tryz.prog.info? 30).map (·.size)=some cs.length by rw [hv.len];exact sizeV)
 have hz2:=Hd (show (Tryz.prog.info? 30).map (·.size)=some ds.length by rw [hu.len];exact sizeV)
 have DA:=Hd (okC_of 48 a 0 ca)
 have DB:=Hd (okC_of 48 b 0 cb)
 have CA:=Hd ca
 have CB:=Hd cb
 have FA:=Hd fa
 have FB:=Hd fb
 have HTB:=Hd hT
 have HMZ:=Hd hm
 clear hT hm
 have hT:=Hd (tval w cs ds [.int .i64 0,.bool false,.bool false,.string ⟨#[]⟩,.int .i64 0,.int .i64 0,.int .i64 0,.int .i64 0,.int .i64 0,.string ⟨#[]⟩,.slice none 0 0,.slice none 0 0,.slice none 0 0])
 have ek:=hT.out.one.cell hh.kind
 have fk:=hT.out.two.cell hg.kind
 have hq:=And.intro ha hb;clear hq
 rw [ha] at ek
 rw [hb] at fk
 clear ha hb
 clear hv hu hh hg ca cb fa fb
 go_enter Tryz.func12,Tryz.ntmps12
 go_wp2_with (first | ((with_reducible show wpList _ _ _ (⟨some 34,_,_,_,_,_⟩::_) _ _);refine wpList_load_mid rfl 30 _ rfl (w.heap.size) 0 rfl cs _ hT.out.one.range Tryz.underlying30 rfl hz1.out ?_) | ((with_reducible show wpList _ _ _ (⟨some 35,_,_,_,_,_⟩::_) _ _);refine wpList_load_mid rfl 30 _ rfl (w.heap.size+1) 0 rfl ds _ hT.out.two.range Tryz.underlying30 rfl hz2.out ?_))
 refine (quov_r a b _ B N cs ds (Nat.le_trans hB hT.out.below.size) hN hN2 CA.out CB.out FA.out FB.out hs hl hf hts (tabs_below HTB.out hT.out.below) (zero_cell HMZ.out hT.out.below) (HV.out.below (hT.out.below.mono hB)) (HU.out.below (hT.out.below.mono hB))).mono ?_
 rintro e wE ⟨xs,rfl,hsol,hb⟩
 obtain ⟨r,hr⟩:∃ r,r=quoV a b:=⟨_,rfl⟩
 rw [← hr] at hsol ⊢
 have HQ:=Hd (show quoV a b=r from hr.symm)
 have hlen:=hsol.here.len
 have AT:=Hd hsol.here
 have S1:=Hd hsol
 have hT1:=Hd (hT.out.later hb)
 clear hsol hb hr
 obtain ⟨rv,rk⟩:=r
 go_wp2_with ((with_reducible show wpList _ _ _ (⟨none,.store 30 (.tmp 6) _,_,_,_,_⟩::_) _ _);refine wpList_store_row rfl 30 _ _ rfl (w.heap.size+1+1) xs.toArray rfl rfl 30 zeroV hT1.out.res (row_size hlen) (row_zero hlen) (row_ones AT.out) ?_)
 refine bodyPost_ret (results_cell_row2 rfl _ _ (w.heap.size+1+1) 30 _ (0,0) _ rfl (hT1.out.put xs).res Tryz.underlying30 rfl (row_size hlen)) rfl ?_
 rw [HQ.out]
 exact res_intoB hB hT.out hT1.out S1.out
set_option maxRecDepth 100000 in
set_option maxHeartbeats 3200000 in
theorem ar_ti_a_r (a b:ValD) (w:World) (B N:Nat) (cs ds:List Value) (hB:B≤w.heap.size) (hN:N≤4294967296) (hN2:120≤N) (ca:chkD a=0) (cb:chkD b=0) (fa:fitsV 60 a) (fb:fitsV 60 b) (hs:a.text.size+b.text.size≤N) (hl:a.list.length+b.list.length≤N) (hf:a.fields.length+b.fields.length≤N) (hts:a.text.size+1≤N) (hT:Lib.Utf8Tabs 1 2 w) (hm:∃ m:Int,w.cell? ⟨0,0,none⟩=some (.int .i64 m)) (hv:ValD.At w B N a cs) (hu:ValD.At w B N b ds) (ha:a.kind≠2) (hb:True) :
 Calls Tryz.prog 12 #[.string ⟨#[42]⟩,.agg cs.toArray,.agg ds.toArray] w (ResR B N (timesV a b) w):=by
 have hq:=And.intro (And.intro (And.intro (And.intro hB hN) hN2) (And.intro ca cb)) (And.intro (And.intro fa fb) (And.intro hs (And.intro hl hf)));have hq2:=And.intro hts (And.intro hT hm);clear hq hq2
 obtain ⟨ya,la,va,yc,lc,vc,hh⟩:=hv.has
 obtain ⟨yb,lb,vb,yd,ld,vd,hg⟩:=hu.has
 have HV:=Hd hv
 have HU:=Hd hu
 have HH:=Hd hh
 have HG:=Hd hg
 have hz1:=Hd (show (Tryz.prog.info? 30).map (·.size)=some cs.length by rw [hv.len];exact sizeV)
 have hz2:=Hd (show (Tryz.prog.info? 30).map (·.size)=some ds.length by rw [hu.len];exact sizeV)
 have DA:=Hd (okC_of 48 a 0 ca)
 have DB:=Hd (okC_of 48 b 0 cb)
 have CA:=Hd ca
 have CB:=Hd cb
 have FA:=Hd fa
 have FB:=Hd fb
 have HTB:=Hd hT
 have HMZ:=Hd hm
 clear hT hm
 have hT:=Hd (tval w cs ds [.int .i64 0,.bool false,.bool false,.string ⟨#[]⟩,.int .i64 0,.int .i64 0,.int .i64 0,.int .i64 0,.int .i64 0,.string ⟨#[]⟩,.slice none 0 0,.slice none 0 0,.slice none 0 0])
 have ek:=hT.out.one.cell hh.kind
 have fk:=hT.out.two.cell hg.kind
 have hq:=And.intro ha hb;clear hq
 have ka:(a.kind==2)=false:=by simpa using ha
 have HQ:=Hd (show timesV a b=(zeroD,6) by unfold timesV;rw [if_neg (by omega)])
 clear ha hb
 clear hv hu hh hg ca cb fa fb
 go_enter Tryz.func12,Tryz.ntmps12
 go_wp2_with fail
 refine (none_ref 6 _).mono ?_
 rintro e wC ⟨rfl,hb⟩
 have hT2:=Hd (hT.out.later hb)
 clear hb hT
 have hT:=hT2
 clear hT2
 go_wp2_with ((with_reducible show wpList _ _ _ (⟨none,.store 30 (.tmp 6) _,_,_,_,_⟩::_) _ _);refine wpList_store_row rfl 30 _ _ rfl (w.heap.size+1+1) zeroV rfl rfl 30 zeroV hT.out.res (sizeZ) (rfl) (oneZ) ?_)
 refine bodyPost_ret (results_cell_row2 rfl _ _ (w.heap.size+1+1) 30 _ (0,0) _ rfl (hT.out.put zeroV.toList).res Tryz.underlying30 rfl sizeZ) rfl ?_
 exact zero_intoB hT.out (HQ.out)
set_option maxRecDepth 100000 in
set_option maxHeartbeats 3200000 in
theorem ar_ti_b_r (a b:ValD) (w:World) (B N:Nat) (cs ds:List Value) (hB:B≤w.heap.size) (hN:N≤4294967296) (hN2:120≤N) (ca:chkD a=0) (cb:chkD b=0) (fa:fitsV 60 a) (fb:fitsV 60 b) (hs:a.text.size+b.text.size≤N) (hl:a.list.length+b.list.length≤N) (hf:a.fields.length+b.fields.length≤N) (hts:a.text.size+1≤N) (hT:Lib.Utf8Tabs 1 2 w) (hm:∃ m:Int,w.cell? ⟨0,0,none⟩=some (.int .i64 m)) (hv:ValD.At w B N a cs) (hu:ValD.At w B N b ds) (ha:a.kind=2) (hb:b.kind≠2) :
 Calls Tryz.prog 12 #[.string ⟨#[42]⟩,.agg cs.toArray,.agg ds.toArray] w (ResR B N (timesV a b) w):=by
 have hq:=And.intro (And.intro (And.intro (And.intro hB hN) hN2) (And.intro ca cb)) (And.intro (And.intro fa fb) (And.intro hs (And.intro hl hf)));have hq2:=And.intro hts (And.intro hT hm);clear hq hq2
 obtain ⟨ya,la,va,yc,lc,vc,hh⟩:=hv.has
 obtain ⟨yb,lb,vb,yd,ld,vd,hg⟩:=hu.has
 have HV:=Hd hv
 have HU:=Hd hu
 have HH:=Hd hh
 have HG:=Hd hg
 have hz1:=Hd (show (Tryz.prog.info? 30).map (·.size)=some cs.length by rw [hv.len];exact sizeV)
 have hz2:=Hd (show (Tryz.prog.info? 30).map (·.size)=some ds.length by rw [hu.len];exact sizeV)
 have DA:=Hd (okC_of 48 a 0 ca)
 have DB:=Hd (okC_of 48 b 0 cb)
 have CA:=Hd ca
 have CB:=Hd cb
 have FA:=Hd fa
 have FB:=Hd fb
 have HTB:=Hd hT
 have HMZ:=Hd hm
 clear hT hm
 have hT:=Hd (tval w cs ds [.int .i64 0,.bool false,.bool false,.string ⟨#[]⟩,.int .i64 0,.int .i64 0,.int .i64 0,.int .i64 0,.int .i64 0,.string ⟨#[]⟩,.slice none 0 0,.slice none 0 0,.slice none 0 0])
 have ek:=hT.out.one.cell hh.kind
 have fk:=hT.out.two.cell hg.kind
 have hq:=And.intro ha hb;clear hq
 have ka:(b.kind==2)=false:=by simpa using hb
 have HQ:=Hd (show timesV a b=(zeroD,6) by unfold timesV;rw [if_neg (by omega)])
 rw [ha] at ek
 clear ha hb
 clear hv hu hh hg ca cb fa fb
 go_enter Tryz.func12,Tryz.ntmps12
 go_wp2_with fail
 refine (none_ref 6 _).mono ?_
 rintro e wC ⟨rfl,hb⟩
 have hT2:=Hd (hT.out.later hb)
 clear hb hT
 have hT:=hT2
 clear hT2
 go_wp2_with ((with_reducible show wpList _ _ _ (⟨none,.store 30 (.tmp 6) _,_,_,_,_⟩::_) _ _);refine wpList_store_row rfl 30 _ _ rfl (w.heap.size+1+1) zeroV rfl rfl 30 zeroV hT.out.res (sizeZ) (rfl) (oneZ) ?_)
 refine bodyPost_ret (results_cell_row2 rfl _ _ (w.heap.size+1+1) 30 _ (0,0) _ rfl (hT.out.put zeroV.toList).res Tryz.underlying30 rfl sizeZ) rfl ?_
 exact zero_intoB hT.out (HQ.out)
set_option maxRecDepth 100000 in
set_option maxHeartbeats 3200000 in
theorem ar_ti_c_r (a b:ValD) (w:World) (B N:Nat) (cs ds:List Value) (hB:B≤w.heap.size) (hN:N≤4294967296) (hN2:120≤N) (ca:chkD a=0) (cb:chkD b=0) (fa:fitsV 60 a) (fb:fitsV 60 b) (hs:a.text.size+b.text.size≤N) (hl:a.list.length+b.list.length≤N) (hf:a.fields.length+b.fields.length≤N) (hts:a.text.size+1≤N) (hT:Lib.Utf8Tabs 1 2 w) (hm:∃ m:Int,w.cell? ⟨0,0,none⟩=some (.int .i64 m)) (hv:ValD.At w B N a cs) (hu:ValD.At w B N b ds) (ha:a.kind=2) (hb:b.kind=2) :
 Calls Tryz.prog 12 #[.string ⟨#[42]⟩,.agg cs.toArray,.agg ds.toArray] w (ResR B N (timesV a b) w):=by
 have hq:=And.intro (And.intro (And.intro (And.intro hB hN) hN2) (And.intro ca cb)) (And.intro (And.intro fa fb) (And.intro hs (And.intro hl hf)));have hq2:=And.intro hts (And.intro hT hm);clear hq hq2
 obtain ⟨ya,la,va,yc,lc,vc,hh⟩:=hv.has
 obtain ⟨yb,lb,vb,yd,ld,vd,hg⟩:=hu.has
 have HV:=Hd hv
 have HU:=Hd hu
 have HH:=Hd hh
 have HG:=Hd hg
 have hz1:=Hd (show (Tryz.prog.info? 30).map (·.size)=some cs.length by rw [hv.len];exact sizeV)
 have hz2:=Hd (show (Tryz.prog.info? 30).map (·.size)=some ds.length by rw [hu.len];exact sizeV)
 have DA:=Hd (okC_of 48 a 0 ca)
 have DB:=Hd (okC_of 48 b 0 cb)
 have CA:=Hd ca
 have CB:=Hd cb
 have FA:=Hd fa
 have FB:=Hd fb
 have HTB:=Hd hT
 have HMZ:=Hd hm
 clear hT hm
 have hT:=Hd (tval w cs ds [.int .i64 0,.bool false,.bool false,.string ⟨#[]⟩,.int .i64 0,.int .i64 0,.int .i64 0,.int .i64 0,.int .i64 0,.string ⟨#[]⟩,.slice none 0 0,.slice none 0 0,.slice none 0 0])
 have ek:=hT.out.one.cell hh.kind
 have fk:=hT.out.two.cell hg.kind
 have hq:=And.intro ha hb;clear hq
 have HQ:=Hd (show timesV a b=numQ (mulD a.num b.num) by unfold timesV;rw [if_pos ⟨ha,hb⟩])
 rw [ha] at ek
 rw [hb] at fk
 clear ha hb
 have eneg:=hT.out.one.cell HH.out.neg
 have fneg:=hT.out.two.cell HG.out.neg
 have edigits:=hT.out.one.cell HH.out.digits
 have fdigits:=hT.out.two.cell HG.out.digits
 have eexp:=hT.out.one.cell HH.out.exp
 have fexp:=hT.out.two.cell HG.out.exp
 clear hv hu hh hg ca cb fa fb
 go_enter Tryz.func12,Tryz.ntmps12
 go_wp2_with fail
 refine (mul_r a.num b.num _ DA.out.2.1 DB.out.2.1).mono ?_
 rintro e wC ⟨rfl,hb⟩
 have hT2:=Hd (hT.out.later hb)
 clear hb hT
 have hT:=hT2
 clear hT2
 have HSM:=Hd (mulD_small a.num b.num)
 obtain ⟨q,hq⟩:∃ q,q=mulD a.num b.num:=⟨_,rfl⟩
 rw [← hq] at HSM HQ ⊢
 clear hq
 obtain ⟨qd,qk⟩:=q
 dsimp only
 go_wp2_with fail
 refine (numberq_r qd qk _ B N hN hN2 HSM.out (Nat.le_trans hB hT.out.below.size)).mono ?_
 rintro e wE ⟨xs,rfl,hsol,hb⟩
 obtain ⟨r,hr⟩:∃ r,r=numQ (qd,qk):=⟨_,rfl⟩
 rw [← hr] at hsol ⊢
 have HQ:=Hd (show timesV a b=r by rw [HQ.out,hr])
 have hlen:=hsol.here.len
 have AT:=Hd hsol.here
 have S1:=Hd hsol
 have hT1:=Hd (hT.out.later hb)
 clear hsol hb hr
 obtain ⟨rv,rk⟩:=r
 go_wp2_with ((with_reducible show wpList _ _ _ (⟨none,.store 30 (.tmp 6) _,_,_,_,_⟩::_) _ _);refine wpList_store_row rfl 30 _ _ rfl (w.heap.size+1+1) xs.toArray rfl rfl 30 zeroV hT1.out.res (row_size hlen) (row_zero hlen) (row_ones AT.out) ?_)
 refine bodyPost_ret (results_cell_row2 rfl _ _ (w.heap.size+1+1) 30 _ (0,0) _ rfl (hT1.out.put xs).res Tryz.underlying30 rfl (row_size hlen)) rfl ?_
 rw [HQ.out]
 exact res_intoB hB hT.out hT1.out S1.out
set_option maxRecDepth 100000 in
set_option maxHeartbeats 3200000 in
theorem ar_re_a_r (a b:ValD) (w:World) (B N:Nat) (cs ds:List Value) (hB:B≤w.heap.size) (hN:N≤4294967296) (hN2:120≤N) (ca:chkD a=0) (cb:chkD b=0) (fa:fitsV 60 a) (fb:fitsV 60 b) (hs:a.text.size+b.text.size≤N) (hl:a.list.length+b.list.length≤N) (hf:a.fields.length+b.fields.length≤N) (hts:a.text.size+1≤N) (hT:Lib.Utf8Tabs 1 2 w) (hm:∃ m:Int,w.cell? ⟨0,0,none⟩=some (.int .i64 m)) (hv:ValD.At w B N a cs) (hu:ValD.At w B N b ds) (ha:a.kind≠2) (hb:True) :
 Calls Tryz.prog 12 #[.string ⟨#[37]⟩,.agg cs.toArray,.agg ds.toArray] w (ResR B N (remV a b) w):=by
 have hq:=And.intro (And.intro (And.intro (And.intro hB hN) hN2) (And.intro ca cb)) (And.intro (And.intro fa fb) (And.intro hs (And.intro hl hf)));have hq2:=And.intro hts (And.intro hT hm);clear hq hq2
 obtain ⟨ya,la,va,yc,lc,vc,hh⟩:=hv.has
 obtain ⟨yb,lb,vb,yd,ld,vd,hg⟩:=hu.has
 have HV:=Hd hv
 have HU:=Hd hu
 have HH:=Hd hh
 have HG:=Hd hg
 have hz1:=Hd (show (Tryz.prog.info? 30).map (·.size)=some cs.length by rw [hv.len];exact sizeV)
 have hz2:=Hd (show (Tryz.prog.info? 30).map (·.size)=some ds.length by rw [hu.len];exact sizeV)
 have DA:=Hd (okC_of 48 a 0 ca)
 have DB:=Hd (okC_of 48 b 0 cb)
 have CA:=Hd ca
 have CB:=Hd cb
 have FA:=Hd fa
 have FB:=Hd fb
 have HTB:=Hd hT
 have HMZ:=Hd hm
 clear hT hm
 have hT:=Hd (tval w cs ds [.int .i64 0,.bool false,.bool false,.string ⟨#[]⟩,.int .i64 0,.int .i64 0,.int .i64 0,.int .i64 0,.int .i64 0,.string ⟨#[]⟩,.slice none 0 0,.slice none 0 0,.slice none 0 0])
 have ek:=hT.out.one.cell hh.kind
 have fk:=hT.out.two.cell hg.kind
 have hq:=And.intro ha hb;clear hq
 have ka:(a.kind==2)=false:=by simpa using ha
 have HQ:=Hd (show remV a b=(zeroD,6) by unfold remV;rw [if_neg (by omega)])
 clear ha hb
 clear hv hu hh hg ca cb fa fb
 go_enter Tryz.func12,Tryz.ntmps12
 go_wp2_with fail
 refine (none_ref 6 _).mono ?_
 rintro e wC ⟨rfl,hb⟩
 have hT2:=Hd (hT.out.later hb)
 clear hb hT
 have hT:=hT2
 clear hT2
 go_wp2_with ((with_reducible show wpList _ _ _ (⟨none,.store 30 (.tmp 6) _,_,_,_,_⟩::_) _ _);refine wpList_store_row rfl 30 _ _ rfl (w.heap.size+1+1) zeroV rfl rfl 30 zeroV hT.out.res (sizeZ) (rfl) (oneZ) ?_)
 refine bodyPost_ret (results_cell_row2 rfl _ _ (w.heap.size+1+1) 30 _ (0,0) _ rfl (hT.out.put zeroV.toList).res Tryz.underlying30 rfl sizeZ) rfl ?_
 exact zero_intoB hT.out (HQ.out)
set_option maxRecDepth 100000 in
set_option maxHeartbeats 3200000 in
theorem ar_re_b_r (a b:ValD) (w:World) (B N:Nat) (cs ds:List Value) (hB:B≤w.heap.size) (hN:N≤4294967296) (hN2:120≤N) (ca:chkD a=0) (cb:chkD b=0) (fa:fitsV 60 a) (fb:fitsV 60 b) (hs:a.text.size+b.text.size≤N) (hl:a.list.length+b.list.length≤N) (hf:a.fields.length+b.fields.length≤N) (hts:a.text.size+1≤N) (hT:Lib.Utf8Tabs 1 2 w) (hm:∃ m:Int,w.cell? ⟨0,0,none⟩=some (.int .i64 m)) (hv:ValD.At w B N a cs) (hu:ValD.At w B N b ds) (ha:a.kind=2) (hb:b.kind≠2) :
 Calls Tryz.prog 12 #[.string ⟨#[37]⟩,.agg cs.toArray,.agg ds.toArray] w (ResR B N (remV a b) w):=by
 have hq:=And.intro (And.intro (And.intro (And.intro hB hN) hN2) (And.intro ca cb)) (And.intro (And.intro fa fb) (And.intro hs (And.intro hl hf)));have hq2:=And.intro hts (And.intro hT hm);clear hq hq2
 obtain ⟨ya,la,va,yc,lc,vc,hh⟩:=hv.has
 obtain ⟨yb,lb,vb,yd,ld,vd,hg⟩:=hu.has
 have HV:=Hd hv
 have HU:=Hd hu
 have HH:=Hd hh
 have HG:=Hd hg
 have hz1:=Hd (show (Tryz.prog.info? 30).map (·.size)=some cs.length by rw [hv.len];exact sizeV)
 have hz2:=Hd (show (Tryz.prog.info? 30).map (·.size)=some ds.length by rw [hu.len];exact sizeV)
 have DA:=Hd (okC_of 48 a 0 ca)
 have DB:=Hd (okC_of 48 b 0 cb)
 have CA:=Hd ca
 have CB:=Hd cb
 have FA:=Hd fa
 have FB:=Hd fb
 have HTB:=Hd hT
 have HMZ:=Hd hm
 clear hT hm
 have hT:=Hd (tval w cs ds [.int .i64 0,.bool false,.bool false,.string ⟨#[]⟩,.int .i64 0,.int .i64 0,.int .i64 0,.int .i64 0,.int .i64 0,.string ⟨#[]⟩,.slice none 0 0,.slice none 0 0,.slice none 0 0])
 have ek:=hT.out.one.cell hh.kind
 have fk:=hT.out.two.cell hg.kind
 have hq:=And.intro ha hb;clear hq
 have ka:(b.kind==2)=false:=by simpa using hb
 have HQ:=Hd (show remV a b=(zeroD,6) by unfold remV;rw [if_neg (by omega)])
 rw [ha] at ek
 clear ha hb
 clear hv hu hh hg ca cb fa fb
 go_enter Tryz.func12,Tryz.ntmps12
 go_wp2_with fail
 refine (none_ref 6 _).mono ?_
 rintro e wC ⟨rfl,hb⟩
 have hT2:=Hd (hT.out.later hb)
 clear hb hT
 have hT:=hT2
 clear hT2
 go_wp2_with ((with_reducible show wpList _ _ _ (⟨none,.store 30 (.tmp 6) _,_,_,_,_⟩::_) _ _);refine wpList_store_row rfl 30 _ _ rfl (w.heap.size+1+1) zeroV rfl rfl 30 zeroV hT.out.res (sizeZ) (rfl) (oneZ) ?_)
 refine bodyPost_ret (results_cell_row2 rfl _ _ (w.heap.size+1+1) 30 _ (0,0) _ rfl (hT.out.put zeroV.toList).res Tryz.underlying30 rfl sizeZ) rfl ?_
 exact zero_intoB hT.out (HQ.out)
set_option maxRecDepth 100000 in
set_option maxHeartbeats 3200000 in
theorem ar_re_c0_r (a b:ValD) (w:World) (B N:Nat) (cs ds:List Value) (hB:B≤w.heap.size) (hN:N≤4294967296) (hN2:120≤N) (ca:chkD a=0) (cb:chkD b=0) (fa:fitsV 60 a) (fb:fitsV 60 b) (hs:a.text.size+b.text.size≤N) (hl:a.list.length+b.list.length≤N) (hf:a.fields.length+b.fields.length≤N) (hts:a.text.size+1≤N) (hT:Lib.Utf8Tabs 1 2 w) (hm:∃ m:Int,w.cell? ⟨0,0,none⟩=some (.int .i64 m)) (hv:ValD.At w B N a cs) (hu:ValD.At w B N b ds) (ha:a.kind=2) (hb:b.kind=2) (hx:decide (0≤a.num.exp)=false) (hy:True) :
 Calls Tryz.prog 12 #[.string ⟨#[37]⟩,.agg cs.toArray,.agg ds.toArray] w (ResR B N (remV a b) w):=by
 have hq:=And.intro (And.intro (And.intro (And.intro hB hN) hN2) (And.intro ca cb)) (And.intro (And.intro fa fb) (And.intro hs (And.intro hl hf)));have hq2:=And.intro hts (And.intro hT hm);clear hq hq2
 obtain ⟨ya,la,va,yc,lc,vc,hh⟩:=hv.has
 obtain ⟨yb,lb,vb,yd,ld,vd,hg⟩:=hu.has
 have HV:=Hd hv
 have HU:=Hd hu
 have HH:=Hd hh
 have HG:=Hd hg
 have hz1:=Hd (show (Tryz.prog.info? 30).map (·.size)=some cs.length by rw [hv.len];exact sizeV)
 have hz2:=Hd (show (Tryz.prog.info? 30).map (·.size)=some ds.length by rw [hu.len];exact sizeV)
 have DA:=Hd (okC_of 48 a 0 ca)
 have DB:=Hd (okC_of 48 b 0 cb)
 have CA:=Hd ca
 have CB:=Hd cb
 have FA:=Hd fa
 have FB:=Hd fb
 have HTB:=Hd hT
 have HMZ:=Hd hm
 clear hT hm
 have hT:=Hd (tval w cs ds [.int .i64 0,.bool false,.bool false,.string ⟨#[]⟩,.int .i64 0,.int .i64 0,.int .i64 0,.int .i64 0,.int .i64 0,.string ⟨#[]⟩,.slice none 0 0,.slice none 0 0,.slice none 0 0])
 have ek:=hT.out.one.cell hh.kind
 have fk:=hT.out.two.cell hg.kind
 have hq:=And.intro ha hb;clear hq
 have HQ:=Hd (show remV a b=(zeroD,15) by unfold remV;rw [if_pos ⟨ha,hb⟩,hx];rfl)
 rw [ha] at ek
 rw [hb] at fk
 have hq:=And.intro hx hy;clear hq
 have HX:=Hd hx
 clear ha hb hx hy
 have eneg:=hT.out.one.cell HH.out.neg
 have fneg:=hT.out.two.cell HG.out.neg
 have edigits:=hT.out.one.cell HH.out.digits
 have fdigits:=hT.out.two.cell HG.out.digits
 have eexp:=hT.out.one.cell HH.out.exp
 have fexp:=hT.out.two.cell HG.out.exp
 clear hv hu hh hg ca cb fa fb
 go_enter Tryz.func12,Tryz.ntmps12
 go_wp2_with fail
 refine (whole_ref a.num false _ HX.out).mono ?_
 rintro e wC ⟨rfl,hb⟩
 have hT2:=Hd (hT.out.later hb)
 clear hb hT
 have hT:=hT2
 clear hT2
 go_wp2_with fail
 refine (none_ref 15 _).mono ?_
 rintro e wC ⟨rfl,hb⟩
 have hT2:=Hd (hT.out.later hb)
 clear hb hT
 have hT:=hT2
 clear hT2
 go_wp2_with ((with_reducible show wpList _ _ _ (⟨none,.store 30 (.tmp 6) _,_,_,_,_⟩::_) _ _);refine wpList_store_row rfl 30 _ _ rfl (w.heap.size+1+1) zeroV rfl rfl 30 zeroV hT.out.res (sizeZ) (rfl) (oneZ) ?_)
 refine bodyPost_ret (results_cell_row2 rfl _ _ (w.heap.size+1+1) 30 _ (0,0) _ rfl (hT.out.put zeroV.toList).res Tryz.underlying30 rfl sizeZ) rfl ?_
 exact zero_intoB hT.out (HQ.out)
set_option maxRecDepth 100000 in
set_option maxHeartbeats 3200000 in
theorem ar_re_c1_r (a b:ValD) (w:World) (B N:Nat) (cs ds:List Value) (hB:B≤w.heap.size) (hN:N≤4294967296) (hN2:120≤N) (ca:chkD a=0) (cb:chkD b=0) (fa:fitsV 60 a) (fb:fitsV 60 b) (hs:a.text.size+b.text.size≤N) (hl:a.list.length+b.list.length≤N) (hf:a.fields.length+b.fields.length≤N) (hts:a.text.size+1≤N) (hT:Lib.Utf8Tabs 1 2 w) (hm:∃ m:Int,w.cell? ⟨0,0,none⟩=some (.int .i64 m)) (hv:ValD.At w B N a cs) (hu:ValD.At w B N b ds) (ha:a.kind=2) (hb:b.kind=2) (hx:decide (0≤a.num.exp)=true) (hy:decide (0≤b.num.exp)=false) :
 Calls Tryz.prog 12 #[.string ⟨#[37]⟩,.agg cs.toArray,.agg ds.toArray] w (ResR B N (remV a b) w):=by
 have hq:=And.intro (And.intro (And.intro (And.intro hB hN) hN2) (And.intro ca cb)) (And.intro (And.intro fa fb) (And.intro hs (And.intro hl hf)));have hq2:=And.intro hts (And.intro hT hm);clear hq hq2
 obtain ⟨ya,la,va,yc,lc,vc,hh⟩:=hv.has
 obtain ⟨yb,lb,vb,yd,ld,vd,hg⟩:=hu.has
 have HV:=Hd hv
 have HU:=Hd hu
 have HH:=Hd hh
 have HG:=Hd hg
 have hz1:=Hd (show (Tryz.prog.info? 30).map (·.size)=some cs.length by rw [hv.len];exact sizeV)
 have hz2:=Hd (show (Tryz.prog.info? 30).map (·.size)=some ds.length by rw [hu.len];exact sizeV)
 have DA:=Hd (okC_of 48 a 0 ca)
 have DB:=Hd (okC_of 48 b 0 cb)
 have CA:=Hd ca
 have CB:=Hd cb
 have FA:=Hd fa
 have FB:=Hd fb
 have HTB:=Hd hT
 have HMZ:=Hd hm
 clear hT hm
 have hT:=Hd (tval w cs ds [.int .i64 0,.bool false,.bool false,.string ⟨#[]⟩,.int .i64 0,.int .i64 0,.int .i64 0,.int .i64 0,.int .i64 0,.string ⟨#[]⟩,.slice none 0 0,.slice none 0 0,.slice none 0 0])
 have ek:=hT.out.one.cell hh.kind
 have fk:=hT.out.two.cell hg.kind
 have hq:=And.intro ha hb;clear hq
 have HQ:=Hd (show remV a b=(zeroD,15) by unfold remV;rw [if_pos ⟨ha,hb⟩,hx,hy];rfl)
 rw [ha] at ek
 rw [hb] at fk
 have hq:=And.intro hx hy;clear hq
 have HX:=Hd hx
 have HY:=Hd hy
 clear ha hb hx hy
 have eneg:=hT.out.one.cell HH.out.neg
 have fneg:=hT.out.two.cell HG.out.neg
 have edigits:=hT.out.one.cell HH.out.digits
 have fdigits:=hT.out.two.cell HG.out.digits
 have eexp:=hT.out.one.cell HH.out.exp
 have fexp:=hT.out.two.cell HG.out.exp
 clear hv hu hh hg ca cb fa fb
 go_enter Tryz.func12,Tryz.ntmps12
 go_wp2_with fail
 refine (whole_ref a.num true _ HX.out).mono ?_
 rintro e wC ⟨rfl,hb⟩
 have hT2:=Hd (hT.out.later hb)
 clear hb hT
 have hT:=hT2
 clear hT2
 have NB:=Hd (num_range hT.out.two HG.out.neg HG.out.digits HG.out.exp)
 go_wp2_with ((with_reducible show wpList _ _ _ (⟨some 68,_,_,_,_,_⟩::_) _ _);refine wpList_load_mid_g' (by kernel_rfl) 23 _ rfl (w.heap.size+1) 2 rfl _ _ NB.out Tryz.underlying23 rfl sizeDEC3 ?_)
 refine (whole_ref b.num false _ HY.out).mono ?_
 rintro e wC ⟨rfl,hb⟩
 have hT2:=Hd (hT.out.later hb)
 clear hb hT
 have hT:=hT2
 clear hT2
 go_wp2_with fail
 refine (none_ref 15 _).mono ?_
 rintro e wC ⟨rfl,hb⟩
 have hT2:=Hd (hT.out.later hb)
 clear hb hT
 have hT:=hT2
 clear hT2
 go_wp2_with ((with_reducible show wpList _ _ _ (⟨none,.store 30 (.tmp 6) _,_,_,_,_⟩::_) _ _);refine wpList_store_row rfl 30 _ _ rfl (w.heap.size+1+1) zeroV rfl rfl 30 zeroV hT.out.res (sizeZ) (rfl) (oneZ) ?_)
 refine bodyPost_ret (results_cell_row2 rfl _ _ (w.heap.size+1+1) 30 _ (0,0) _ rfl (hT.out.put zeroV.toList).res Tryz.underlying30 rfl sizeZ) rfl ?_
 exact zero_intoB hT.out (HQ.out)
set_option maxRecDepth 100000 in
set_option maxHeartbeats 3200000 in
theorem ar_re_c2_r (a b:ValD) (w:World) (B N:Nat) (cs ds:List Value) (hB:B≤w.heap.size) (hN:N≤4294967296) (hN2:120≤N) (ca:chkD a=0) (cb:chkD b=0) (fa:fitsV 60 a) (fb:fitsV 60 b) (hs:a.text.size+b.text.size≤N) (hl:a.list.length+b.list.length≤N) (hf:a.fields.length+b.fields.length≤N) (hts:a.text.size+1≤N) (hT:Lib.Utf8Tabs 1 2 w) (hm:∃ m:Int,w.cell? ⟨0,0,none⟩=some (.int .i64 m)) (hv:ValD.At w B N a cs) (hu:ValD.At w B N b ds) (ha:a.kind=2) (hb:b.kind=2) (hx:decide (0≤a.num.exp)=true) (hy:decide (0≤b.num.exp)=true) :
 Calls Tryz.prog 12 #[.string ⟨#[37]⟩,.agg cs.toArray,.agg ds.toArray] w (ResR B N (remV a b) w):=by
 have hq:=And.intro (And.intro (And.intro (And.intro hB hN) hN2) (And.intro ca cb)) (And.intro (And.intro fa fb) (And.intro hs (And.intro hl hf)));have hq2:=And.intro hts (And.intro hT hm);clear hq hq2
 obtain ⟨ya,la,va,yc,lc,vc,hh⟩:=hv.has
 obtain ⟨yb,lb,vb,yd,ld,vd,hg⟩:=hu.has
 have HV:=Hd hv
 have HU:=Hd hu
 have HH:=Hd hh
 have HG:=Hd hg
 have hz1:=Hd (show (Tryz.prog.info? 30).map (·.size)=some cs.length by rw [hv.len];exact sizeV)
 have hz2:=Hd (show (Tryz.prog.info? 30).map (·.size)=some ds.length by rw [hu.len];exact sizeV)
 have DA:=Hd (okC_of 48 a 0 ca)
 have DB:=Hd (okC_of 48 b 0 cb)
 have CA:=Hd ca
 have CB:=Hd cb
 have FA:=Hd fa
 have FB:=Hd fb
 have HTB:=Hd hT
 have HMZ:=Hd hm
 clear hT hm
 have hT:=Hd (tval w cs ds [.int .i64 0,.bool false,.bool false,.string ⟨#[]⟩,.int .i64 0,.int .i64 0,.int .i64 0,.int .i64 0,.int .i64 0,.string ⟨#[]⟩,.slice none 0 0,.slice none 0 0,.slice none 0 0])
 have ek:=hT.out.one.cell hh.kind
 have fk:=hT.out.two.cell hg.kind
 have hq:=And.intro ha hb;clear hq
 have HQ:=Hd (show remV a b=numQ (modD a.num b.num) by unfold remV;rw [if_pos ⟨ha,hb⟩,hx,hy];rfl)
 rw [ha] at ek
 rw [hb] at fk
 have hq:=And.intro hx hy;clear hq
 have HX:=Hd hx
 have HY:=Hd hy
 clear ha hb hx hy
 have eneg:=hT.out.one.cell HH.out.neg
 have fneg:=hT.out.two.cell HG.out.neg
 have edigits:=hT.out.one.cell HH.out.digits
 have fdigits:=hT.out.two.cell HG.out.digits
 have eexp:=hT.out.one.cell HH.out.exp
 have fexp:=hT.out.two.cell HG.out.exp
 clear hv hu hh hg ca cb fa fb
 go_enter Tryz.func12,Tryz.ntmps12
 go_wp2_with fail
 refine (whole_ref a.num true _ HX.out).mono ?_
 rintro e wC ⟨rfl,hb⟩
 have hT2:=Hd (hT.out.later hb)
 clear hb hT
 have hT:=hT2
 clear hT2
 have NB:=Hd (num_range hT.out.two HG.out.neg HG.out.digits HG.out.exp)
 go_wp2_with ((with_reducible show wpList _ _ _ (⟨some 68,_,_,_,_,_⟩::_) _ _);refine wpList_load_mid_g' (by kernel_rfl) 23 _ rfl (w.heap.size+1) 2 rfl _ _ NB.out Tryz.underlying23 rfl sizeDEC3 ?_)
 refine (whole_ref b.num true _ HY.out).mono ?_
 rintro e wC ⟨rfl,hb⟩
 have hT2:=Hd (hT.out.later hb)
 clear hb hT
 have hT:=hT2
 clear hT2
 have eneg:=hT.out.one.cell HH.out.neg
 have fneg:=hT.out.two.cell HG.out.neg
 have edigits:=hT.out.one.cell HH.out.digits
 have fdigits:=hT.out.two.cell HG.out.digits
 have eexp:=hT.out.one.cell HH.out.exp
 have fexp:=hT.out.two.cell HG.out.exp
 go_wp2_with fail
 refine (mod_rr a.num b.num _ DA.out.2.1 DB.out.2.1).mono ?_
 rintro e wC ⟨rfl,hb⟩
 have hT2:=Hd (hT.out.later hb)
 clear hb hT
 have hT:=hT2
 clear hT2
 have HSM:=Hd (modD_small a.num b.num)
 obtain ⟨q,hq⟩:∃ q,q=modD a.num b.num:=⟨_,rfl⟩
 rw [← hq] at HSM HQ ⊢
 clear hq
 obtain ⟨qd,qk⟩:=q
 dsimp only
 go_wp2_with fail
 refine (numberq_r qd qk _ B N hN hN2 HSM.out (Nat.le_trans hB hT.out.below.size)).mono ?_
 rintro e wE ⟨xs,rfl,hsol,hb⟩
 obtain ⟨r,hr⟩:∃ r,r=numQ (qd,qk):=⟨_,rfl⟩
 rw [← hr] at hsol ⊢
 have HQ:=Hd (show remV a b=r by rw [HQ.out,hr])
 have hlen:=hsol.here.len
 have AT:=Hd hsol.here
 have S1:=Hd hsol
 have hT1:=Hd (hT.out.later hb)
 clear hsol hb hr
 obtain ⟨rv,rk⟩:=r
 go_wp2_with ((with_reducible show wpList _ _ _ (⟨none,.store 30 (.tmp 6) _,_,_,_,_⟩::_) _ _);refine wpList_store_row rfl 30 _ _ rfl (w.heap.size+1+1) xs.toArray rfl rfl 30 zeroV hT1.out.res (row_size hlen) (row_zero hlen) (row_ones AT.out) ?_)
 refine bodyPost_ret (results_cell_row2 rfl _ _ (w.heap.size+1+1) 30 _ (0,0) _ rfl (hT1.out.put xs).res Tryz.underlying30 rfl (row_size hlen)) rfl ?_
 rw [HQ.out]
 exact res_intoB hB hT.out hT1.out S1.out
end Go.Proofs.YtmjfggadehkbjaaGreatDoor
