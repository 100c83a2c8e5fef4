/- The reference's differences. -/
import Derived.Test.YtmjfggadehkbjaaGreatDoorProg
import Derived.Test.YtmjfggadehkbjaaGreatDoorGA
import Derived.Test.YtmjfggadehkbjaaGreatDoorGB
import Derived.Test.YtmjfggadehkbjaaGreatDoorGC
import Derived.Test.YtmjfggadehkbjaaGreatDoorGD
import Derived.Test.YtmjfggadehkbjaaGreatDoorRow36
import Derived.Test.YtmjfggadehkbjaaGreatDoorGF
import Derived.Test.YtmjfggadehkbjaaGreatDoorChkq
import Derived.Test.YtmjfggadehkbjaaGreatDoorXA
import Derived.Test.YtmjfggadehkbjaaGreatDoorXD
import Derived.Test.YtmjfggadehkbjaaGreatDoorXE
import Derived.Test.YtmjfggadehkbjaaGreatDoorXK
import Derived.Test.YtmjfggadehkbjaaGreatDoorAB
import Derived.Test.YtmjfggadehkbjaaGreatDoorAra09
import Derived.Test.YtmjfggadehkbjaaGreatDoorAD
import Derived.Test.YtmjfggadehkbjaaGreatDoorAE
import Derived.Test.YtmjfggadehkbjaaGreatDoorAF
import Derived.Test.YtmjfggadehkbjaaGreatDoorAH
import Derived.Test.YtmjfggadehkbjaaGreatDoorAI
import Derived.Test.YtmjfggadehkbjaaGreatDoorAJ
import Derived.Test.YtmjfggadehkbjaaGreatDoorAM
import Derived.Test.YtmjfggadehkbjaaGreatDoorArd10
import Derived.Test.YtmjfggadehkbjaaGreatDoorAP
import Derived.Test.YtmjfggadehkbjaaGreatDoorAL
import Derived.Test.YtmjfggadehkbjaaGreatDoorArc03
import Derived.Test.YtmjfggadehkbjaaGreatDoorAK
import Derived.Test.YtmjfggadehkbjaaGreatDoorAN
namespace Go.Proofs.YtmjfggadehkbjaaGreatDoor
open Go.RowKit Stb
set_option maxRecDepth 100000 in
set_option maxHeartbeats 3200000 in
theorem subv_n_r (a b:ValD) (w:World) (B N:Nat) (cs ds:List Value) (hB:B≤w.heap.size) (hN:N≤4294967296) (hN2:120≤N) (ca:chkD a=0) (cb:chkD b=0) (fa:fitsV 60 a) (fb:fitsV 60 b) (hs:a.text.size+b.text.size≤N) (hl:a.list.length+b.list.length≤N) (hf:a.fields.length+b.fields.length≤N) (hts:a.text.size+1≤N) (hT:Lib.Utf8Tabs 1 2 w) (hm:∃ m:Int,w.cell? ⟨0,0,none⟩=some (.int .i64 m)) (hv:ValD.At w B N a cs) (hu:ValD.At w B N b ds) (ha:a.kind=2) (hb:b.kind=2) :
 Calls Tryz.prog 33 #[.agg cs.toArray,.agg ds.toArray] w (ResR B N (minusV a b) w):=by
 have hq:=And.intro (And.intro (And.intro (And.intro hB hN) hN2) (And.intro ca cb)) (And.intro (And.intro fa fb) (And.intro hs (And.intro hl hf)));have hq2:=And.intro hts (And.intro hT hm);clear hq hq2
 obtain ⟨ya,la,va,yc,lc,vc,hh⟩:=hv.has
 obtain ⟨yb,lb,vb,yd,ld,vd,hg⟩:=hu.has
 have HV:=Hd hv
 have HU:=Hd hu
 have HH:=Hd hh
 have HG:=Hd hg
 have hz1:=Hd (show (Tryz.prog.info? 30).map (·.size)=some cs.length by rw [hv.len];exact sizeV)
 have hz2:=Hd (show (Tryz.prog.info? 30).map (·.size)=some ds.length by rw [hu.len];exact sizeV)
 have DA:=Hd (okC_of 48 a 0 ca)
 have DB:=Hd (okC_of 48 b 0 cb)
 have CA:=Hd ca
 have CB:=Hd cb
 have FA:=Hd fa
 have FB:=Hd fb
 have HTB:=Hd hT
 have HMZ:=Hd hm
 clear hT hm
 have hT:=Hd (tval w cs ds [.int .i64 0,.bool false,.bool false,.string ⟨#[]⟩,.int .i64 0,.int .i64 0,.int .i64 0,.int .i64 0,.int .i64 0,.string ⟨#[]⟩,.slice none 0 0,.slice none 0 0,.slice none 0 0])
 have ek:=hT.out.one.cell hh.kind
 have fk:=hT.out.two.cell hg.kind
 have HQ:=Hd (show minusV a b=numQ (subD a.num b.num) by unfold minusV;rw [if_pos ⟨ha,hb⟩])
 rw [ha] at ek
 rw [hb] at fk
 clear ha hb
 have eneg:=hT.out.one.cell HH.out.neg
 have fneg:=hT.out.two.cell HG.out.neg
 have edigits:=hT.out.one.cell HH.out.digits
 have fdigits:=hT.out.two.cell HG.out.digits
 have eexp:=hT.out.one.cell HH.out.exp
 have fexp:=hT.out.two.cell HG.out.exp
 clear hv hu hh hg ca cb fa fb
 go_enter Tryz.func33,Tryz.ntmps33
 go_wp2_with fail
 refine (sub_r a.num b.num _ DA.out.2.1 DB.out.2.1).mono ?_
 rintro e wC ⟨rfl,hb⟩
 have hT2:=Hd (hT.out.later hb)
 clear hb hT
 have hT:=hT2
 clear hT2
 have HSM:=Hd (subD_small a.num b.num)
 obtain ⟨q,hq⟩:∃ q,q=subD a.num b.num:=⟨_,rfl⟩
 rw [← hq] at HSM HQ ⊢
 clear hq
 obtain ⟨qd,qk⟩:=q
 dsimp only
 go_wp2_with fail
 refine (numberq_r qd qk _ B N hN hN2 HSM.out (Nat.le_trans hB hT.out.below.size)).mono ?_
 rintro e wE ⟨xs,rfl,hsol,hb⟩
 obtain ⟨r,hr⟩:∃ r,r=numQ (qd,qk):=⟨_,rfl⟩
 rw [← hr] at hsol ⊢
 have HQ:=Hd (show minusV a b=r by rw [HQ.out,hr])
 have hlen:=hsol.here.len
 have AT:=Hd hsol.here
 have S1:=Hd hsol
 have hT1:=Hd (hT.out.later hb)
 clear hsol hb hr
 obtain ⟨rv,rk⟩:=r
 go_wp2_with ((with_reducible show wpList _ _ _ (⟨none,.store 30 (.tmp 4) _,_,_,_,_⟩::_) _ _);refine wpList_store_row rfl 30 _ _ rfl (w.heap.size+1+1) xs.toArray rfl rfl 30 zeroV hT1.out.res (row_size hlen) (row_zero hlen) (row_ones AT.out) ?_)
 refine bodyPost_ret (results_cell_row2 rfl _ _ (w.heap.size+1+1) 30 _ (0,0) _ rfl (hT1.out.put xs).res Tryz.underlying30 rfl (row_size hlen)) rfl ?_
 rw [HQ.out]
 exact res_intoB hB hT.out hT1.out S1.out
set_option maxRecDepth 100000 in
set_option maxHeartbeats 3200000 in
theorem subv_1_r (a b:ValD) (w:World) (B N:Nat) (cs ds:List Value) (hB:B≤w.heap.size) (hN:N≤4294967296) (hN2:120≤N) (ca:chkD a=0) (cb:chkD b=0) (fa:fitsV 60 a) (fb:fitsV 60 b) (hs:a.text.size+b.text.size≤N) (hl:a.list.length+b.list.length≤N) (hf:a.fields.length+b.fields.length≤N) (hts:a.text.size+1≤N) (hT:Lib.Utf8Tabs 1 2 w) (hm:∃ m:Int,w.cell? ⟨0,0,none⟩=some (.int .i64 m)) (hv:ValD.At w B N a cs) (hu:ValD.At w B N b ds) (ha:a.kind≠2) (hb:a.kind≠6) :
 Calls Tryz.prog 33 #[.agg cs.toArray,.agg ds.toArray] w (ResR B N (minusV a b) w):=by
 have hq:=And.intro (And.intro (And.intro (And.intro hB hN) hN2) (And.intro ca cb)) (And.intro (And.intro fa fb) (And.intro hs (And.intro hl hf)));have hq2:=And.intro hts (And.intro hT hm);clear hq hq2
 obtain ⟨ya,la,va,yc,lc,vc,hh⟩:=hv.has
 obtain ⟨yb,lb,vb,yd,ld,vd,hg⟩:=hu.has
 have HV:=Hd hv
 have HU:=Hd hu
 have HH:=Hd hh
 have HG:=Hd hg
 have hz1:=Hd (show (Tryz.prog.info? 30).map (·.size)=some cs.length by rw [hv.len];exact sizeV)
 have hz2:=Hd (show (Tryz.prog.info? 30).map (·.size)=some ds.length by rw [hu.len];exact sizeV)
 have DA:=Hd (okC_of 48 a 0 ca)
 have DB:=Hd (okC_of 48 b 0 cb)
 have CA:=Hd ca
 have CB:=Hd cb
 have FA:=Hd fa
 have FB:=Hd fb
 have HTB:=Hd hT
 have HMZ:=Hd hm
 clear hT hm
 have hT:=Hd (tval w cs ds [.int .i64 0,.bool false,.bool false,.string ⟨#[]⟩,.int .i64 0,.int .i64 0,.int .i64 0,.int .i64 0,.int .i64 0,.string ⟨#[]⟩,.slice none 0 0,.slice none 0 0,.slice none 0 0])
 have ek:=hT.out.one.cell hh.kind
 have fk:=hT.out.two.cell hg.kind
 have HQ:=Hd (show minusV a b=(zeroD,6) by unfold minusV;rw [if_neg (by omega),if_neg (by omega)])
 have ka:(a.kind==2)=false:=by simpa using ha
 have kb:(a.kind != 6)=true:=by simpa using hb
 clear ha hb
 clear hv hu hh hg ca cb fa fb
 go_enter Tryz.func33,Tryz.ntmps33
 go_wp2_with fail
 refine (none_ref 6 _).mono ?_
 rintro e wC ⟨rfl,hb⟩
 have hT2:=Hd (hT.out.later hb)
 clear hb hT
 have hT:=hT2
 clear hT2
 go_wp2_with ((with_reducible show wpList _ _ _ (⟨none,.store 30 (.tmp 4) _,_,_,_,_⟩::_) _ _);refine wpList_store_row rfl 30 _ _ rfl (w.heap.size+1+1) zeroV rfl rfl 30 zeroV hT.out.res (sizeZ) (rfl) (oneZ) ?_)
 refine bodyPost_ret (results_cell_row2 rfl _ _ (w.heap.size+1+1) 30 _ (0,0) _ rfl (hT.out.put zeroV.toList).res Tryz.underlying30 rfl sizeZ) rfl ?_
 exact zero_intoB hT.out (HQ.out)
set_option maxRecDepth 100000 in
set_option maxHeartbeats 3200000 in
theorem subv_2_r (a b:ValD) (w:World) (B N:Nat) (cs ds:List Value) (hB:B≤w.heap.size) (hN:N≤4294967296) (hN2:120≤N) (ca:chkD a=0) (cb:chkD b=0) (fa:fitsV 60 a) (fb:fitsV 60 b) (hs:a.text.size+b.text.size≤N) (hl:a.list.length+b.list.length≤N) (hf:a.fields.length+b.fields.length≤N) (hts:a.text.size+1≤N) (hT:Lib.Utf8Tabs 1 2 w) (hm:∃ m:Int,w.cell? ⟨0,0,none⟩=some (.int .i64 m)) (hv:ValD.At w B N a cs) (hu:ValD.At w B N b ds) (ha:a.kind=2) (hb:b.kind≠2) :
 Calls Tryz.prog 33 #[.agg cs.toArray,.agg ds.toArray] w (ResR B N (minusV a b) w):=by
 have hq:=And.intro (And.intro (And.intro (And.intro hB hN) hN2) (And.intro ca cb)) (And.intro (And.intro fa fb) (And.intro hs (And.intro hl hf)));have hq2:=And.intro hts (And.intro hT hm);clear hq hq2
 obtain ⟨ya,la,va,yc,lc,vc,hh⟩:=hv.has
 obtain ⟨yb,lb,vb,yd,ld,vd,hg⟩:=hu.has
 have HV:=Hd hv
 have HU:=Hd hu
 have HH:=Hd hh
 have HG:=Hd hg
 have hz1:=Hd (show (Tryz.prog.info? 30).map (·.size)=some cs.length by rw [hv.len];exact sizeV)
 have hz2:=Hd (show (Tryz.prog.info? 30).map (·.size)=some ds.length by rw [hu.len];exact sizeV)
 have DA:=Hd (okC_of 48 a 0 ca)
 have DB:=Hd (okC_of 48 b 0 cb)
 have CA:=Hd ca
 have CB:=Hd cb
 have FA:=Hd fa
 have FB:=Hd fb
 have HTB:=Hd hT
 have HMZ:=Hd hm
 clear hT hm
 have hT:=Hd (tval w cs ds [.int .i64 0,.bool false,.bool false,.string ⟨#[]⟩,.int .i64 0,.int .i64 0,.int .i64 0,.int .i64 0,.int .i64 0,.string ⟨#[]⟩,.slice none 0 0,.slice none 0 0,.slice none 0 0])
 have ek:=hT.out.one.cell hh.kind
 have fk:=hT.out.two.cell hg.kind
 have HQ:=Hd (show minusV a b=(zeroD,6) by unfold minusV;rw [if_neg (by omega),if_neg (by omega)])
 have ka:(b.kind==2)=false:=by simpa using hb
 rw [ha] at ek
 clear ha hb
 clear hv hu hh hg ca cb fa fb
 go_enter Tryz.func33,Tryz.ntmps33
 go_wp2_with fail
 refine (none_ref 6 _).mono ?_
 rintro e wC ⟨rfl,hb⟩
 have hT2:=Hd (hT.out.later hb)
 clear hb hT
 have hT:=hT2
 clear hT2
 go_wp2_with ((with_reducible show wpList _ _ _ (⟨none,.store 30 (.tmp 4) _,_,_,_,_⟩::_) _ _);refine wpList_store_row rfl 30 _ _ rfl (w.heap.size+1+1) zeroV rfl rfl 30 zeroV hT.out.res (sizeZ) (rfl) (oneZ) ?_)
 refine bodyPost_ret (results_cell_row2 rfl _ _ (w.heap.size+1+1) 30 _ (0,0) _ rfl (hT.out.put zeroV.toList).res Tryz.underlying30 rfl sizeZ) rfl ?_
 exact zero_intoB hT.out (HQ.out)
set_option maxRecDepth 100000 in
set_option maxHeartbeats 3200000 in
theorem subv_3_r (a b:ValD) (w:World) (B N:Nat) (cs ds:List Value) (hB:B≤w.heap.size) (hN:N≤4294967296) (hN2:120≤N) (ca:chkD a=0) (cb:chkD b=0) (fa:fitsV 60 a) (fb:fitsV 60 b) (hs:a.text.size+b.text.size≤N) (hl:a.list.length+b.list.length≤N) (hf:a.fields.length+b.fields.length≤N) (hts:a.text.size+1≤N) (hT:Lib.Utf8Tabs 1 2 w) (hm:∃ m:Int,w.cell? ⟨0,0,none⟩=some (.int .i64 m)) (hv:ValD.At w B N a cs) (hu:ValD.At w B N b ds) (ha:a.kind=6) (hb:b.kind≠6) :
 Calls Tryz.prog 33 #[.agg cs.toArray,.agg ds.toArray] w (ResR B N (minusV a b) w):=by
 have hq:=And.intro (And.intro (And.intro (And.intro hB hN) hN2) (And.intro ca cb)) (And.intro (And.intro fa fb) (And.intro hs (And.intro hl hf)));have hq2:=And.intro hts (And.intro hT hm);clear hq hq2
 obtain ⟨ya,la,va,yc,lc,vc,hh⟩:=hv.has
 obtain ⟨yb,lb,vb,yd,ld,vd,hg⟩:=hu.has
 have HV:=Hd hv
 have HU:=Hd hu
 have HH:=Hd hh
 have HG:=Hd hg
 have hz1:=Hd (show (Tryz.prog.info? 30).map (·.size)=some cs.length by rw [hv.len];exact sizeV)
 have hz2:=Hd (show (Tryz.prog.info? 30).map (·.size)=some ds.length by rw [hu.len];exact sizeV)
 have DA:=Hd (okC_of 48 a 0 ca)
 have DB:=Hd (okC_of 48 b 0 cb)
 have CA:=Hd ca
 have CB:=Hd cb
 have FA:=Hd fa
 have FB:=Hd fb
 have HTB:=Hd hT
 have HMZ:=Hd hm
 clear hT hm
 have hT:=Hd (tval w cs ds [.int .i64 0,.bool false,.bool false,.string ⟨#[]⟩,.int .i64 0,.int .i64 0,.int .i64 0,.int .i64 0,.int .i64 0,.string ⟨#[]⟩,.slice none 0 0,.slice none 0 0,.slice none 0 0])
 have ek:=hT.out.one.cell hh.kind
 have fk:=hT.out.two.cell hg.kind
 have HQ:=Hd (show minusV a b=(zeroD,6) by unfold minusV;rw [if_neg (by omega),if_neg (by omega)])
 have kb:(b.kind != 6)=true:=by simpa using hb
 rw [ha] at ek
 clear ha hb
 clear hv hu hh hg ca cb fa fb
 go_enter Tryz.func33,Tryz.ntmps33
 go_wp2_with fail
 refine (none_ref 6 _).mono ?_
 rintro e wC ⟨rfl,hb⟩
 have hT2:=Hd (hT.out.later hb)
 clear hb hT
 have hT:=hT2
 clear hT2
 go_wp2_with ((with_reducible show wpList _ _ _ (⟨none,.store 30 (.tmp 4) _,_,_,_,_⟩::_) _ _);refine wpList_store_row rfl 30 _ _ rfl (w.heap.size+1+1) zeroV rfl rfl 30 zeroV hT.out.res (sizeZ) (rfl) (oneZ) ?_)
 refine bodyPost_ret (results_cell_row2 rfl _ _ (w.heap.size+1+1) 30 _ (0,0) _ rfl (hT.out.put zeroV.toList).res Tryz.underlying30 rfl sizeZ) rfl ?_
 exact zero_intoB hT.out (HQ.out)
set_option maxRecDepth 100000 in
set_option maxHeartbeats 3200000 in
theorem subv_l_r (a b:ValD) (w:World) (B N:Nat) (cs ds:List Value) (hB:B≤w.heap.size) (hN:N≤4294967296) (hN2:120≤N) (ca:chkD a=0) (cb:chkD b=0) (fa:fitsV 60 a) (fb:fitsV 60 b) (hs:a.text.size+b.text.size≤N) (hl:a.list.length+b.list.length≤N) (hf:a.fields.length+b.fields.length≤N) (hts:a.text.size+1≤N) (hT:Lib.Utf8Tabs 1 2 w) (hm:∃ m:Int,w.cell? ⟨0,0,none⟩=some (.int .i64 m)) (hv:ValD.At w B N a cs) (hu:ValD.At w B N b ds) (ha:a.kind=6) (hb:b.kind=6) :
 Calls Tryz.prog 33 #[.agg cs.toArray,.agg ds.toArray] w (ResR B N (minusV a b) w):=by
 have hq:=And.intro (And.intro (And.intro (And.intro hB hN) hN2) (And.intro ca cb)) (And.intro (And.intro fa fb) (And.intro hs (And.intro hl hf)));have hq2:=And.intro hts (And.intro hT hm);clear hq hq2
 obtain ⟨ya,la,va,yc,lc,vc,hh⟩:=hv.has
 obtain ⟨yb,lb,vb,yd,ld,vd,hg⟩:=hu.has
 have HV:=Hd hv
 have HU:=Hd hu
 have HH:=Hd hh
 have HG:=Hd hg
 have hz1:=Hd (show (Tryz.prog.info? 30).map (·.size)=some cs.length by rw [hv.len];exact sizeV)
 have hz2:=Hd (show (Tryz.prog.info? 30).map (·.size)=some ds.length by rw [hu.len];exact sizeV)
 have DA:=Hd (okC_of 48 a 0 ca)
 have DB:=Hd (okC_of 48 b 0 cb)
 have CA:=Hd ca
 have CB:=Hd cb
 have FA:=Hd fa
 have FB:=Hd fb
 have HTB:=Hd hT
 have HMZ:=Hd hm
 clear hT hm
 have hT:=Hd (tval w cs ds [.int .i64 0,.bool false,.bool false,.string ⟨#[]⟩,.int .i64 0,.int .i64 0,.int .i64 0,.int .i64 0,.int .i64 0,.string ⟨#[]⟩,.slice none 0 0,.slice none 0 0,.slice none 0 0])
 have ek:=hT.out.one.cell hh.kind
 have fk:=hT.out.two.cell hg.kind
 have HQ:=Hd (show minusV a b=resD (lisD (withoutL 47 a.list b.list)) by unfold minusV;rw [if_neg (by omega),if_pos ⟨ha,hb⟩])
 rw [ha] at ek
 rw [hb] at fk
 clear ha hb
 have elist:=hT.out.one.cell HH.out.list
 have flist:=hT.out.two.cell HG.out.list
 obtain ⟨z0,hz0s,hinfo⟩:=infoV
 obtain ⟨i0,hi,hz0,hz1',hz2'⟩:=info_parts hinfo
 have HI:=Hd hi
 have HZ0:=Hd hz0
 have HZ1:=Hd hz1'
 have HZ2:=Hd hz2'
 have HZS:=Hd hz0s
 clear hi hz0 hz1' hz2' hz0s hinfo
 have OA:=Hd (fun x hx=>okC_fits 47 x (DA.out.2.2.2.2.2.1 x hx))
 have OB:=Hd (fun x hx=>okC_fits 47 x (DB.out.2.2.2.2.2.1 x hx))
 obtain ⟨l,hle⟩:∃ l,l=a.list:=⟨_,rfl⟩
 obtain ⟨m,hme⟩:∃ m,m=b.list:=⟨_,rfl⟩
 have HLA:=Hd (show ValsAt w B N l la by rw [hle];exact HH.out.atList)
 have HMB:=Hd (show ValsAt w B N m lb by rw [hme];exact HG.out.atList)
 have HLC:=Hd (show cs[11]?=some (.slice la l.length lc) by rw [hle];exact HH.out.list)
 have HMC:=Hd (show ds[11]?=some (.slice lb m.length ld) by rw [hme];exact HG.out.list)
 rw [← hle] at elist hl HQ OA
 rw [← hme] at flist hl HQ OB
 clear hle hme
 clear hv hu hh hg ca cb fa fb
 go_enter Tryz.func33,Tryz.ntmps33
 go_wp2_with fail
 go_simp
 clear elist flist ek fk
 go_loopw [6,7] (fun v i wr=>∃ (k:Nat) (out:List ValD) (xs:List Value),k≤l.length∧i=.int .i64 k∧Hid (out=withoutL 47 (l.take k) m)∧Hid (wr.ownsRow (w.heap.size+3) 30 13 v out.length xs)∧Hid (NewsV w B N out xs)∧Hid (Tval w wr cs ds [.int .i64 0,.bool false,.bool false,.string ⟨#[]⟩,.int .i64 0,.int .i64 0,.int .i64 0,.int .i64 0,.int .i64 0,.string ⟨#[]⟩,.slice none 0 0,.slice none 0 0,.slice none 0 0])) (fun _ i _=>l.length-(intOf i).toNat)
 case atStart=>exact ⟨0,[],[],by omega,rfl,Hd rfl,Hd (World.ownsRow_nil _ _ _ _),Hd (NewsV.nil _ _ _),hT⟩
 case round =>
  obtain ⟨wa,hwa⟩:∃ wa,wa=wr:=⟨_,rfl⟩
  subst wr
  clear hT
  obtain ⟨k,out,xs,hk,rfl,HOUT,HO,HNV,hT⟩:=hrel
  have HOL:=Hd (show out.length≤l.length by rw [HOUT.out];exact withoutL_len k)
  have hws:w.heap.size+3≤wa.heap.size:=hT.out.size
  have elist:=hT.out.one.cell HLC.out
  by_cases hlt:k<l.length
  case pos =>
   obtain ⟨b0,o0,rfl,hb0,hg0⟩:=HLA.out.get (by intro h;rw [h] at hlt;simp at hlt)
   obtain ⟨c0,hc0,hv0⟩:=hg0 k hlt
   have C0:=Hd hc0
   have V0:=Hd hv0
   have V1:=Hd hv0.oneCell
   have hz0:=Hd (show (Tryz.prog.info? 30).map (·.size)=some c0.length by rw [hv0.len];exact sizeV)
   have HST:=Hd (withoutL_take (m:=47) (b:=m) hlt)
   obtain ⟨s,hs⟩:∃ s,s=m.any (eqvD 47 l[k]):=⟨_,rfl⟩
   rw [← hs] at HST
   have HS:=Hd hs
   have HOK:=Hd (OA.out l[k] (List.getElem_mem hlt))
   clear hg0 hc0 hv0 hs
   go_wp2_with fail
   refine wp_region_held_drew (S:=fun q=>Tval w q cs ds [.int .i64 0,.bool false,.bool false,.string ⟨#[]⟩,.int .i64 0,.int .i64 0,.int .i64 0,.int .i64 0,.int .i64 0,.string ⟨#[]⟩,.slice none 0 0,.slice none 0 0,.slice none 0 0]) (by kernel_rfl) hT.out.drew (fun hHeld=>?_)
   refine wpAnyH_takeU (i:=0) (v:=.pointer (some ⟨w.heap.size,11,none⟩)) 44 rfl rfl (by kernel_rfl) (by kernel_rfl) (by kernel_rfl) (fun _ _ _ h=>h) (Or.inl ⟨by kernel_rfl,fun u hu=>by go_simp⟩) (by assumption) ?_
   simp only [sq1,sq0]
   refine wpAnyH_takeU (i:=1) (v:=.slice (some ⟨b0,o0,none⟩) l.length lc) 45 rfl rfl (by kernel_rfl) (by kernel_rfl) (by kernel_rfl) (fun _ _ _ h=>h) (Or.inl ⟨by kernel_rfl,fun u hu=>by have hc:=hu.one.cell HLC.out;go_simp⟩) (by assumption) ?_
   simp only [sq1,sq0]
   refine wpAnyH_takeU (i:=2) (v:=.int .i64 k) 46 rfl rfl (by kernel_rfl) (by kernel_rfl) (by kernel_rfl) (fun _ _ _ h=>h) (Or.inl ⟨by kernel_rfl,fun u hu=>by go_simp⟩) (by assumption) ?_
   simp only [sq1,sq0]
   refine wpAnyH_takeU (i:=3) (v:=.pointer (some ⟨b0,o0+k * 13,none⟩)) 47 rfl rfl (by kernel_rfl) (by kernel_rfl) (by kernel_rfl) (fun _ _ _ h=>h) (Or.inl ⟨by kernel_rfl,fun u hu=>by go_simp⟩) (by assumption) ?_
   simp only [sq1,sq0]
   refine wpAnyH_takeU (i:=4) (v:=.agg c0.toArray) 48 rfl rfl (by kernel_rfl) (by kernel_rfl) (by kernel_rfl) (fun _ _ _ h=>h) ?_ (by assumption) ?_
   ·exact yieldsIf_load_mid (by kernel_rfl) 30 _ rfl b0 (o0+k * 13) (by kernel_rfl) c0 _ (fun u hu=>(C0.out.below (hu.below.mono hB) hb0).range) Tryz.underlying30 rfl hz0.out
   simp only [sq1,sq0]
   refine wpAnyH_takeU (i:=5) (v:=.pointer (some ⟨w.heap.size+1,11,none⟩)) 49 rfl rfl (by kernel_rfl) (by kernel_rfl) (by kernel_rfl) (fun _ _ _ h=>h) (Or.inl ⟨by kernel_rfl,fun u hu=>by go_simp⟩) (by assumption) ?_
   simp only [sq1,sq0]
   refine wpAnyH_takeU (i:=6) (v:=.slice lb m.length ld) 50 rfl rfl (by kernel_rfl) (by kernel_rfl) (by kernel_rfl) (fun _ _ _ h=>h) (Or.inl ⟨by kernel_rfl,fun u hu=>by have hc:=hu.two.cell HMC.out;go_simp⟩) (by assumption) ?_
   simp only [sq1,sq0]
   refine rd1 7 rfl (fun K hK=>?_)
   go_simp
   refine (in_r 47 l[k] m lb ld _ B N c0 HOK.out OB.out hN (by omega) (Nat.le_trans hB hHeld.below.size) (V0.out.below (hHeld.below.mono hB)) (HMB.out.below (hHeld.below.mono hB))).mono ?_
   rintro e w2 ⟨rfl,hb⟩
   rw [← HS.out]
   have hH2:=hHeld.later hb
   have HB2:=Hd (belowDrew hb)
   refine hK.out _ _ hH2 (fun _=>?_)
   clear hK K hHeld hb
   refine rd1 8 rfl (fun K hK=>?_)
   go_simp
   refine hK.out _ _ hH2 (fun _=>?_)
   clear hK K
   refine wpAnyH_done (by kernel_rfl) ?_ _
   have HO2:=Hd (own_below' HO.out HB2.out)
   have hT2:=Hd hH2
   clear hH2 elist
   cases s with
   | true =>
     go_simp
     go_wp2_with fail
     go_roundw
     case rel=>exact ⟨k+1,out,xs,by omega,by go_num,Hd (by rw [HST.out];simp;exact HOUT.out),HO2,HNV,hT2⟩
     case measure=>simp [intOf];omega
   | false =>
     have elist:=hT2.out.one.cell HLC.out
     have hws2:=hT2.out.size
     have XC:=Hd (C0.out.below (hT2.out.below.mono hB) hb0)
     go_simp
     go_wp2_with (first
      | ((with_reducible show wpList _ _ _ (⟨some 58,_,_,_,_,_⟩::_) _ _);refine wpList_load_mid rfl 30 _ rfl b0 (o0+k * 13) rfl c0 _ XC.out.range Tryz.underlying30 rfl hz0.out ?_)
      | ((with_reducible show wpList _ _ _ (⟨some 59,_,_,_,_,_⟩::_) _ _);refine wpList_rowsV rfl [c0] c0 (by simp) 1 _ rfl rfl (by decide) (by decide) (by intro r hr;simp at hr;rw [hr];exact V0.out.len) (by rw [List.map_toArray];rfl) ?_)
      | ((with_reducible show wpList _ _ _ (⟨some 60,_,_,_,_,_⟩::_) _ _);refine wpList_append_own _ rfl _ _ 27 rfl (w.heap.size+3) 30 i0 (.agg z0) 13 168 Tryz.underlying27 HI.out HZ0.out HZ1.out HZ2.out HZS.out (by decide) _ _ _ rfl (HO2.out.alloc _) ⟨w2.heap.size,0,none⟩ 1 1 c0 rfl (by rw [V0.out.len]) (new_cells w2 c0 _) V1.out ?c3 ?c4 ?c5 ?_))
     case c3=>have:=HOL.out;unfold maxLen;omega
     case c4=>have:=HOL.out;omega
     case c5=>rw [World.size_alloc];omega
     intro v3 w3 hown3 hgrow3 _
     have HBL:=Hd (show Below (w.heap.size+3) w2 w3 from (belowBox' w2 _ hws2).grown hgrow3 (by rw [World.size_alloc];omega) (fun q hq=>(HO2.out.lt q hq).1))
     have hT4:=Hd (hT2.out.low HBL.out)
     have HO4:=Hd (show w3.ownsRow (w.heap.size+3) 30 13 v3 (out++[l[k]]).length (xs++c0) by rw [List.length_append];exact hown3)
     clear hown3 hgrow3 elist
     go_wp2_with fail
     go_roundw
     case rel=>exact ⟨k+1,out++[l[k]],xs++c0,by omega,by go_num,Hd (by rw [HST.out];simp;exact HOUT.out),HO4,Hd (HNV.out.cat (NewsV.one V0.out)),hT4⟩
     case measure=>simp [intOf];omega
  case neg =>
   have HWO:=Hd (show withoutL 47 l m=out by rw [HOUT.out,show k=l.length by omega,List.take_length])
   have HON:=Hd (show out.length≤N by have:=HOL.out;omega)
   obtain ⟨aL,cL,rfl,hL⟩:=vals_news (l:=out) HO.out rfl (Nat.le_refl _) ((HNV.out.below (hT.out.below.mono hB)).mono (Nat.le_trans hB hT.out.below.size))
   have HL2:=Hd hL
   clear hL
   go_wp2_with fail
   refine (list_rex out out.length rfl aL cL wa wa.heap.size N hN HON.out (Nat.le_refl _) HL2.out).mono ?_
   rintro e wE ⟨hor,hb⟩
   have hT1:=Hd (hT.out.later hb)
   have HB3:=Hd hb
   clear hb elist
   rcases hor with ⟨hk2,rfl⟩ | ⟨hk2,rfl⟩
   ·have HQ2:=Hd (show minusV a b=(lisD out,0) by rw [HQ.out,HWO.out];exact resD_ok hk2)
    have hlen:(lisR out aL cL).length=13:=rfl
    have ONE:=Hd (show ∀ v∈lisR out aL cL,v.oneCell'=true from (lisD_at (B:=wa.heap.size) cL HON.out HL2.out).oneCell)
    clear hk2
    go_wp2_with ((with_reducible show wpList _ _ _ (⟨none,.store 30 (.tmp 4) _,_,_,_,_⟩::_) _ _);refine wpList_store_row rfl 30 _ _ rfl (w.heap.size+1+1) (lisR out aL cL).toArray rfl rfl 30 zeroV hT1.out.res (row_size hlen) (row_zero hlen) (Go.all_oneCell_toArray ONE.out) ?_)
    refine bodyPost_ret (results_cell_row2 rfl _ _ (w.heap.size+1+1) 30 _ (0,0) _ rfl (hT1.out.put (lisR out aL cL)).res Tryz.underlying30 rfl (row_size hlen)) rfl ?_
    rw [HQ2.out]
    have HF:=Hd (hT1.out.put (lisR out aL cL)).below
    refine ⟨lisR out aL cL,rfl,fun d hd=>lisD_at cL HON.out (lis_finalB (L:=w.heap.size) (l:=out) HO.out (fun q h1 h2=>?_) (by rw [setRow_size];exact HB3.out.size) (HNV.out.below (HF.out.mono hB)) (Nat.le_trans hB HF.out.size) (by omega) d hd),HF.out⟩
    rw [setRow_other _ _ _ _ (by omega)]
    exact HB3.out.block q h2
   ·have HQ2:=Hd (show minusV a b=(zeroD,chkD (lisD out)) by rw [HQ.out,HWO.out];unfold resD;rw [if_neg hk2])
    obtain ⟨k2,hk3⟩:∃ k2,k2=chkD (lisD out):=⟨_,rfl⟩
    rw [← hk3] at HQ2 ⊢
    clear hk2 hk3 hT
    have hT:=hT1
    go_wp2_with ((with_reducible show wpList _ _ _ (⟨none,.store 30 (.tmp 4) _,_,_,_,_⟩::_) _ _);refine wpList_store_row rfl 30 _ _ rfl (w.heap.size+1+1) zeroV rfl rfl 30 zeroV hT.out.res (sizeZ) (rfl) (oneZ) ?_)
    refine bodyPost_ret (results_cell_row2 rfl _ _ (w.heap.size+1+1) 30 _ (0,0) _ rfl (hT.out.put zeroV.toList).res Tryz.underlying30 rfl sizeZ) rfl ?_
    exact zero_intoB hT.out (HQ2.out)
theorem subv_r (a b:ValD) (w:World) (B N:Nat) (cs ds:List Value) (hB:B≤w.heap.size) (hN:N≤4294967296) (hN2:120≤N) (ca:chkD a=0) (cb:chkD b=0) (fa:fitsV 60 a) (fb:fitsV 60 b) (hs:a.text.size+b.text.size≤N) (hl:a.list.length+b.list.length≤N) (hf:a.fields.length+b.fields.length≤N) (hts:a.text.size+1≤N) (hT:Lib.Utf8Tabs 1 2 w) (hm:∃ m:Int,w.cell? ⟨0,0,none⟩=some (.int .i64 m)) (hv:ValD.At w B N a cs) (hu:ValD.At w B N b ds) :
 Calls Tryz.prog 33 #[.agg cs.toArray,.agg ds.toArray] w (ResR B N (minusV a b) w):=by
 by_cases h1:a.kind=2
 ·by_cases h2:b.kind=2
  ·exact subv_n_r a b w B N cs ds hB hN hN2 ca cb fa fb hs hl hf hts hT hm hv hu h1 h2
  ·exact subv_2_r a b w B N cs ds hB hN hN2 ca cb fa fb hs hl hf hts hT hm hv hu h1 h2
 by_cases h3:a.kind=6
 ·by_cases h4:b.kind=6
  ·exact subv_l_r a b w B N cs ds hB hN hN2 ca cb fa fb hs hl hf hts hT hm hv hu h3 h4
  ·exact subv_3_r a b w B N cs ds hB hN hN2 ca cb fa fb hs hl hf hts hT hm hv hu h3 h4
 exact subv_1_r a b w B N cs ds hB hN hN2 ca cb fa fb hs hl hf hts hT hm hv hu h1 h3
end Go.Proofs.YtmjfggadehkbjaaGreatDoor

/- The reference's Arith, whole. -/
namespace Go.Proofs.YtmjfggadehkbjaaGreatDoor
open Go.RowKit Stb
set_option maxRecDepth 100000 in
set_option maxHeartbeats 3200000 in
theorem ar_mi_a_r (a b:ValD) (w:World) (B N:Nat) (cs ds:List Value) (hB:B≤w.heap.size) (hN:N≤4294967296) (hN2:120≤N) (ca:chkD a=0) (cb:chkD b=0) (fa:fitsV 60 a) (fb:fitsV 60 b) (hs:a.text.size+b.text.size≤N) (hl:a.list.length+b.list.length≤N) (hf:a.fields.length+b.fields.length≤N) (hts:a.text.size+1≤N) (hT:Lib.Utf8Tabs 1 2 w) (hm:∃ m:Int,w.cell? ⟨0,0,none⟩=some (.int .i64 m)) (hv:ValD.At w B N a cs) (hu:ValD.At w B N b ds) (ha:a.kind≠2) (hb:True) :
 Calls Tryz.prog 12 #[.string ⟨#[45]⟩,.agg cs.toArray,.agg ds.toArray] w (ResR B N (minusV a b) w):=by
 have hq:=And.intro (And.intro (And.intro (And.intro hB hN) hN2) (And.intro ca cb)) (And.intro (And.intro fa fb) (And.intro hs (And.intro hl hf)));have hq2:=And.intro hts (And.intro hT hm);clear hq hq2
 obtain ⟨ya,la,va,yc,lc,vc,hh⟩:=hv.has
 obtain ⟨yb,lb,vb,yd,ld,vd,hg⟩:=hu.has
 have HV:=Hd hv
 have HU:=Hd hu
 have HH:=Hd hh
 have HG:=Hd hg
 have hz1:=Hd (show (Tryz.prog.info? 30).map (·.size)=some cs.length by rw [hv.len];exact sizeV)
 have hz2:=Hd (show (Tryz.prog.info? 30).map (·.size)=some ds.length by rw [hu.len];exact sizeV)
 have DA:=Hd (okC_of 48 a 0 ca)
 have DB:=Hd (okC_of 48 b 0 cb)
 have CA:=Hd ca
 have CB:=Hd cb
 have FA:=Hd fa
 have FB:=Hd fb
 have HTB:=Hd hT
 have HMZ:=Hd hm
 clear hT hm
 have hT:=Hd (tval w cs ds [.int .i64 0,.bool false,.bool false,.string ⟨#[]⟩,.int .i64 0,.int .i64 0,.int .i64 0,.int .i64 0,.int .i64 0,.string ⟨#[]⟩,.slice none 0 0,.slice none 0 0,.slice none 0 0])
 have ek:=hT.out.one.cell hh.kind
 have fk:=hT.out.two.cell hg.kind
 have hq:=And.intro ha hb;clear hq
 have ka:(a.kind==2)=false:=by simpa using ha
 clear ha hb
 clear hv hu hh hg ca cb fa fb
 go_enter Tryz.func12,Tryz.ntmps12
 go_wp2_with (first | ((with_reducible show wpList _ _ _ (⟨some 27,_,_,_,_,_⟩::_) _ _);refine wpList_load_mid rfl 30 _ rfl (w.heap.size) 0 rfl cs _ hT.out.one.range Tryz.underlying30 rfl hz1.out ?_) | ((with_reducible show wpList _ _ _ (⟨some 28,_,_,_,_,_⟩::_) _ _);refine wpList_load_mid rfl 30 _ rfl (w.heap.size+1) 0 rfl ds _ hT.out.two.range Tryz.underlying30 rfl hz2.out ?_))
 refine (subv_r a b _ B N cs ds (Nat.le_trans hB hT.out.below.size) hN hN2 CA.out CB.out FA.out FB.out hs hl hf hts (tabs_below HTB.out hT.out.below) (zero_cell HMZ.out hT.out.below) (HV.out.below (hT.out.below.mono hB)) (HU.out.below (hT.out.below.mono hB))).mono ?_
 rintro e wE ⟨xs,rfl,hsol,hb⟩
 obtain ⟨r,hr⟩:∃ r,r=minusV a b:=⟨_,rfl⟩
 rw [← hr] at hsol ⊢
 have HQ:=Hd (show minusV a b=r from hr.symm)
 have hlen:=hsol.here.len
 have AT:=Hd hsol.here
 have S1:=Hd hsol
 have hT1:=Hd (hT.out.later hb)
 clear hsol hb hr
 obtain ⟨rv,rk⟩:=r
 go_wp2_with ((with_reducible show wpList _ _ _ (⟨none,.store 30 (.tmp 6) _,_,_,_,_⟩::_) _ _);refine wpList_store_row rfl 30 _ _ rfl (w.heap.size+1+1) xs.toArray rfl rfl 30 zeroV hT1.out.res (row_size hlen) (row_zero hlen) (row_ones AT.out) ?_)
 refine bodyPost_ret (results_cell_row2 rfl _ _ (w.heap.size+1+1) 30 _ (0,0) _ rfl (hT1.out.put xs).res Tryz.underlying30 rfl (row_size hlen)) rfl ?_
 rw [HQ.out]
 exact res_intoB hB hT.out hT1.out S1.out
set_option maxRecDepth 100000 in
set_option maxHeartbeats 3200000 in
theorem ar_no_a_r (op:ByteArray) (a b:ValD) (w:World) (B N:Nat) (cs ds:List Value) (hB:B≤w.heap.size) (hN:N≤4294967296) (hN2:120≤N) (ca:chkD a=0) (cb:chkD b=0) (fa:fitsV 60 a) (fb:fitsV 60 b) (hs:a.text.size+b.text.size≤N) (hl:a.list.length+b.list.length≤N) (hf:a.fields.length+b.fields.length≤N) (hts:a.text.size+1≤N) (hT:Lib.Utf8Tabs 1 2 w) (hm:∃ m:Int,w.cell? ⟨0,0,none⟩=some (.int .i64 m)) (hv:ValD.At w B N a cs) (hu:ValD.At w B N b ds) (ha:a.kind≠2) (hb:True) (g43:(op.toList==[43])=false) (g45:(op.toList==[45])=false) (g47:(op.toList==[47])=false) (g42:(op.toList==[42])=false) (g37:(op.toList==[37])=false) :
 Calls Tryz.prog 12 #[.string op,.agg cs.toArray,.agg ds.toArray] w (ResR B N ((zeroD,1)) w):=by
 have hq:=And.intro (And.intro (And.intro (And.intro hB hN) hN2) (And.intro ca cb)) (And.intro (And.intro fa fb) (And.intro hs (And.intro hl hf)));have hq2:=And.intro hts (And.intro hT hm);clear hq hq2
 obtain ⟨ya,la,va,yc,lc,vc,hh⟩:=hv.has
 obtain ⟨yb,lb,vb,yd,ld,vd,hg⟩:=hu.has
 have HV:=Hd hv
 have HU:=Hd hu
 have HH:=Hd hh
 have HG:=Hd hg
 have hz1:=Hd (show (Tryz.prog.info? 30).map (·.size)=some cs.length by rw [hv.len];exact sizeV)
 have hz2:=Hd (show (Tryz.prog.info? 30).map (·.size)=some ds.length by rw [hu.len];exact sizeV)
 have DA:=Hd (okC_of 48 a 0 ca)
 have DB:=Hd (okC_of 48 b 0 cb)
 have CA:=Hd ca
 have CB:=Hd cb
 have FA:=Hd fa
 have FB:=Hd fb
 have HTB:=Hd hT
 have HMZ:=Hd hm
 clear hT hm
 have hT:=Hd (tval w cs ds [.int .i64 0,.bool false,.bool false,.string ⟨#[]⟩,.int .i64 0,.int .i64 0,.int .i64 0,.int .i64 0,.int .i64 0,.string ⟨#[]⟩,.slice none 0 0,.slice none 0 0,.slice none 0 0])
 have ek:=hT.out.one.cell hh.kind
 have fk:=hT.out.two.cell hg.kind
 have hq:=And.intro ha hb;clear hq
 have ka:(a.kind==2)=false:=by simpa using ha
 clear ha hb
 clear hv hu hh hg ca cb fa fb
 go_enter Tryz.func12,Tryz.ntmps12
 go_wp2_with fail
 refine (none_ref 1 _).mono ?_
 rintro e wC ⟨rfl,hb⟩
 have hT2:=Hd (hT.out.later hb)
 clear hb hT
 have hT:=hT2
 clear hT2
 go_wp2_with ((with_reducible show wpList _ _ _ (⟨none,.store 30 (.tmp 6) _,_,_,_,_⟩::_) _ _);refine wpList_store_row rfl 30 _ _ rfl (w.heap.size+1+1) zeroV rfl rfl 30 zeroV hT.out.res (sizeZ) (rfl) (oneZ) ?_)
 refine bodyPost_ret (results_cell_row2 rfl _ _ (w.heap.size+1+1) 30 _ (0,0) _ rfl (hT.out.put zeroV.toList).res Tryz.underlying30 rfl sizeZ) rfl ?_
 exact zero_intoB hT.out (rfl)
set_option maxRecDepth 100000 in
set_option maxHeartbeats 3200000 in
theorem ar_mi_b_r (a b:ValD) (w:World) (B N:Nat) (cs ds:List Value) (hB:B≤w.heap.size) (hN:N≤4294967296) (hN2:120≤N) (ca:chkD a=0) (cb:chkD b=0) (fa:fitsV 60 a) (fb:fitsV 60 b) (hs:a.text.size+b.text.size≤N) (hl:a.list.length+b.list.length≤N) (hf:a.fields.length+b.fields.length≤N) (hts:a.text.size+1≤N) (hT:Lib.Utf8Tabs 1 2 w) (hm:∃ m:Int,w.cell? ⟨0,0,none⟩=some (.int .i64 m)) (hv:ValD.At w B N a cs) (hu:ValD.At w B N b ds) (ha:a.kind=2) (hb:b.kind≠2) :
 Calls Tryz.prog 12 #[.string ⟨#[45]⟩,.agg cs.toArray,.agg ds.toArray] w (ResR B N (minusV a b) w):=by
 have hq:=And.intro (And.intro (And.intro (And.intro hB hN) hN2) (And.intro ca cb)) (And.intro (And.intro fa fb) (And.intro hs (And.intro hl hf)));have hq2:=And.intro hts (And.intro hT hm);clear hq hq2
 obtain ⟨ya,la,va,yc,lc,vc,hh⟩:=hv.has
 obtain ⟨yb,lb,vb,yd,ld,vd,hg⟩:=hu.has
 have HV:=Hd hv
 have HU:=Hd hu
 have HH:=Hd hh
 have HG:=Hd hg
 have hz1:=Hd (show (Tryz.prog.info? 30).map (·.size)=some cs.length by rw [hv.len];exact sizeV)
 have hz2:=Hd (show (Tryz.prog.info? 30).map (·.size)=some ds.length by rw [hu.len];exact sizeV)
 have DA:=Hd (okC_of 48 a 0 ca)
 have DB:=Hd (okC_of 48 b 0 cb)
 have CA:=Hd ca
 have CB:=Hd cb
 have FA:=Hd fa
 have FB:=Hd fb
 have HTB:=Hd hT
 have HMZ:=Hd hm
 clear hT hm
 have hT:=Hd (tval w cs ds [.int .i64 0,.bool false,.bool false,.string ⟨#[]⟩,.int .i64 0,.int .i64 0,.int .i64 0,.int .i64 0,.int .i64 0,.string ⟨#[]⟩,.slice none 0 0,.slice none 0 0,.slice none 0 0])
 have ek:=hT.out.one.cell hh.kind
 have fk:=hT.out.two.cell hg.kind
 have hq:=And.intro ha hb;clear hq
 have ka:(b.kind==2)=false:=by simpa using hb
 rw [ha] at ek
 clear ha hb
 clear hv hu hh hg ca cb fa fb
 go_enter Tryz.func12,Tryz.ntmps12
 go_wp2_with (first | ((with_reducible show wpList _ _ _ (⟨some 27,_,_,_,_,_⟩::_) _ _);refine wpList_load_mid rfl 30 _ rfl (w.heap.size) 0 rfl cs _ hT.out.one.range Tryz.underlying30 rfl hz1.out ?_) | ((with_reducible show wpList _ _ _ (⟨some 28,_,_,_,_,_⟩::_) _ _);refine wpList_load_mid rfl 30 _ rfl (w.heap.size+1) 0 rfl ds _ hT.out.two.range Tryz.underlying30 rfl hz2.out ?_))
 refine (subv_r a b _ B N cs ds (Nat.le_trans hB hT.out.below.size) hN hN2 CA.out CB.out FA.out FB.out hs hl hf hts (tabs_below HTB.out hT.out.below) (zero_cell HMZ.out hT.out.below) (HV.out.below (hT.out.below.mono hB)) (HU.out.below (hT.out.below.mono hB))).mono ?_
 rintro e wE ⟨xs,rfl,hsol,hb⟩
 obtain ⟨r,hr⟩:∃ r,r=minusV a b:=⟨_,rfl⟩
 rw [← hr] at hsol ⊢
 have HQ:=Hd (show minusV a b=r from hr.symm)
 have hlen:=hsol.here.len
 have AT:=Hd hsol.here
 have S1:=Hd hsol
 have hT1:=Hd (hT.out.later hb)
 clear hsol hb hr
 obtain ⟨rv,rk⟩:=r
 go_wp2_with ((with_reducible show wpList _ _ _ (⟨none,.store 30 (.tmp 6) _,_,_,_,_⟩::_) _ _);refine wpList_store_row rfl 30 _ _ rfl (w.heap.size+1+1) xs.toArray rfl rfl 30 zeroV hT1.out.res (row_size hlen) (row_zero hlen) (row_ones AT.out) ?_)
 refine bodyPost_ret (results_cell_row2 rfl _ _ (w.heap.size+1+1) 30 _ (0,0) _ rfl (hT1.out.put xs).res Tryz.underlying30 rfl (row_size hlen)) rfl ?_
 rw [HQ.out]
 exact res_intoB hB hT.out hT1.out S1.out
set_option maxRecDepth 100000 in
set_option maxHeartbeats 3200000 in
theorem ar_no_b_r (op:ByteArray) (a b:ValD) (w:World) (B N:Nat) (cs ds:List Value) (hB:B≤w.heap.size) (hN:N≤4294967296) (hN2:120≤N) (ca:chkD a=0) (cb:chkD b=0) (fa:fitsV 60 a) (fb:fitsV 60 b) (hs:a.text.size+b.text.size≤N) (hl:a.list.length+b.list.length≤N) (hf:a.fields.length+b.fields.length≤N) (hts:a.text.size+1≤N) (hT:Lib.Utf8Tabs 1 2 w) (hm:∃ m:Int,w.cell? ⟨0,0,none⟩=some (.int .i64 m)) (hv:ValD.At w B N a cs) (hu:ValD.At w B N b ds) (ha:a.kind=2) (hb:b.kind≠2) (g43:(op.toList==[43])=false) (g45:(op.toList==[45])=false) (g47:(op.toList==[47])=false) (g42:(op.toList==[42])=false) (g37:(op.toList==[37])=false) :
 Calls Tryz.prog 12 #[.string op,.agg cs.toArray,.agg ds.toArray] w (ResR B N ((zeroD,1)) w):=by
 have hq:=And.intro (And.intro (And.intro (And.intro hB hN) hN2) (And.intro ca cb)) (And.intro (And.intro fa fb) (And.intro hs (And.intro hl hf)));have hq2:=And.intro hts (And.intro hT hm);clear hq hq2
 obtain ⟨ya,la,va,yc,lc,vc,hh⟩:=hv.has
 obtain ⟨yb,lb,vb,yd,ld,vd,hg⟩:=hu.has
 have HV:=Hd hv
 have HU:=Hd hu
 have HH:=Hd hh
 have HG:=Hd hg
 have hz1:=Hd (show (Tryz.prog.info? 30).map (·.size)=some cs.length by rw [hv.len];exact sizeV)
 have hz2:=Hd (show (Tryz.prog.info? 30).map (·.size)=some ds.length by rw [hu.len];exact sizeV)
 have DA:=Hd (okC_of 48 a 0 ca)
 have DB:=Hd (okC_of 48 b 0 cb)
 have CA:=Hd ca
 have CB:=Hd cb
 have FA:=Hd fa
 have FB:=Hd fb
 have HTB:=Hd hT
 have HMZ:=Hd hm
 clear hT hm
 have hT:=Hd (tval w cs ds [.int .i64 0,.bool false,.bool false,.string ⟨#[]⟩,.int .i64 0,.int .i64 0,.int .i64 0,.int .i64 0,.int .i64 0,.string ⟨#[]⟩,.slice none 0 0,.slice none 0 0,.slice none 0 0])
 have ek:=hT.out.one.cell hh.kind
 have fk:=hT.out.two.cell hg.kind
 have hq:=And.intro ha hb;clear hq
 have ka:(b.kind==2)=false:=by simpa using hb
 rw [ha] at ek
 clear ha hb
 clear hv hu hh hg ca cb fa fb
 go_enter Tryz.func12,Tryz.ntmps12
 go_wp2_with fail
 refine (none_ref 1 _).mono ?_
 rintro e wC ⟨rfl,hb⟩
 have hT2:=Hd (hT.out.later hb)
 clear hb hT
 have hT:=hT2
 clear hT2
 go_wp2_with ((with_reducible show wpList _ _ _ (⟨none,.store 30 (.tmp 6) _,_,_,_,_⟩::_) _ _);refine wpList_store_row rfl 30 _ _ rfl (w.heap.size+1+1) zeroV rfl rfl 30 zeroV hT.out.res (sizeZ) (rfl) (oneZ) ?_)
 refine bodyPost_ret (results_cell_row2 rfl _ _ (w.heap.size+1+1) 30 _ (0,0) _ rfl (hT.out.put zeroV.toList).res Tryz.underlying30 rfl sizeZ) rfl ?_
 exact zero_intoB hT.out (rfl)
set_option maxRecDepth 100000 in
set_option maxHeartbeats 3200000 in
theorem ar_mi_c_r (a b:ValD) (w:World) (B N:Nat) (cs ds:List Value) (hB:B≤w.heap.size) (hN:N≤4294967296) (hN2:120≤N) (ca:chkD a=0) (cb:chkD b=0) (fa:fitsV 60 a) (fb:fitsV 60 b) (hs:a.text.size+b.text.size≤N) (hl:a.list.length+b.list.length≤N) (hf:a.fields.length+b.fields.length≤N) (hts:a.text.size+1≤N) (hT:Lib.Utf8Tabs 1 2 w) (hm:∃ m:Int,w.cell? ⟨0,0,none⟩=some (.int .i64 m)) (hv:ValD.At w B N a cs) (hu:ValD.At w B N b ds) (ha:a.kind=2) (hb:b.kind=2) :
 Calls Tryz.prog 12 #[.string ⟨#[45]⟩,.agg cs.toArray,.agg ds.toArray] w (ResR B N (minusV a b) w):=by
 have hq:=And.intro (And.intro (And.intro (And.intro hB hN) hN2) (And.intro ca cb)) (And.intro (And.intro fa fb) (And.intro hs (And.intro hl hf)));have hq2:=And.intro hts (And.intro hT hm);clear hq hq2
 obtain ⟨ya,la,va,yc,lc,vc,hh⟩:=hv.has
 obtain ⟨yb,lb,vb,yd,ld,vd,hg⟩:=hu.has
 have HV:=Hd hv
 have HU:=Hd hu
 have HH:=Hd hh
 have HG:=Hd hg
 have hz1:=Hd (show (Tryz.prog.info? 30).map (·.size)=some cs.length by rw [hv.len];exact sizeV)
 have hz2:=Hd (show (Tryz.prog.info? 30).map (·.size)=some ds.length by rw [hu.len];exact sizeV)
 have DA:=Hd (okC_of 48 a 0 ca)
 have DB:=Hd (okC_of 48 b 0 cb)
 have CA:=Hd ca
 have CB:=Hd cb
 have FA:=Hd fa
 have FB:=Hd fb
 have HTB:=Hd hT
 have HMZ:=Hd hm
 clear hT hm
 have hT:=Hd (tval w cs ds [.int .i64 0,.bool false,.bool false,.string ⟨#[]⟩,.int .i64 0,.int .i64 0,.int .i64 0,.int .i64 0,.int .i64 0,.string ⟨#[]⟩,.slice none 0 0,.slice none 0 0,.slice none 0 0])
 have ek:=hT.out.one.cell hh.kind
 have fk:=hT.out.two.cell hg.kind
 have hq:=And.intro ha hb;clear hq
 rw [ha] at ek
 rw [hb] at fk
 clear ha hb
 clear hv hu hh hg ca cb fa fb
 go_enter Tryz.func12,Tryz.ntmps12
 go_wp2_with (first | ((with_reducible show wpList _ _ _ (⟨some 27,_,_,_,_,_⟩::_) _ _);refine wpList_load_mid rfl 30 _ rfl (w.heap.size) 0 rfl cs _ hT.out.one.range Tryz.underlying30 rfl hz1.out ?_) | ((with_reducible show wpList _ _ _ (⟨some 28,_,_,_,_,_⟩::_) _ _);refine wpList_load_mid rfl 30 _ rfl (w.heap.size+1) 0 rfl ds _ hT.out.two.range Tryz.underlying30 rfl hz2.out ?_))
 refine (subv_r a b _ B N cs ds (Nat.le_trans hB hT.out.below.size) hN hN2 CA.out CB.out FA.out FB.out hs hl hf hts (tabs_below HTB.out hT.out.below) (zero_cell HMZ.out hT.out.below) (HV.out.below (hT.out.below.mono hB)) (HU.out.below (hT.out.below.mono hB))).mono ?_
 rintro e wE ⟨xs,rfl,hsol,hb⟩
 obtain ⟨r,hr⟩:∃ r,r=minusV a b:=⟨_,rfl⟩
 rw [← hr] at hsol ⊢
 have HQ:=Hd (show minusV a b=r from hr.symm)
 have hlen:=hsol.here.len
 have AT:=Hd hsol.here
 have S1:=Hd hsol
 have hT1:=Hd (hT.out.later hb)
 clear hsol hb hr
 obtain ⟨rv,rk⟩:=r
 go_wp2_with ((with_reducible show wpList _ _ _ (⟨none,.store 30 (.tmp 6) _,_,_,_,_⟩::_) _ _);refine wpList_store_row rfl 30 _ _ rfl (w.heap.size+1+1) xs.toArray rfl rfl 30 zeroV hT1.out.res (row_size hlen) (row_zero hlen) (row_ones AT.out) ?_)
 refine bodyPost_ret (results_cell_row2 rfl _ _ (w.heap.size+1+1) 30 _ (0,0) _ rfl (hT1.out.put xs).res Tryz.underlying30 rfl (row_size hlen)) rfl ?_
 rw [HQ.out]
 exact res_intoB hB hT.out hT1.out S1.out
set_option maxRecDepth 100000 in
set_option maxHeartbeats 3200000 in
theorem ar_no_c_r (op:ByteArray) (a b:ValD) (w:World) (B N:Nat) (cs ds:List Value) (hB:B≤w.heap.size) (hN:N≤4294967296) (hN2:120≤N) (ca:chkD a=0) (cb:chkD b=0) (fa:fitsV 60 a) (fb:fitsV 60 b) (hs:a.text.size+b.text.size≤N) (hl:a.list.length+b.list.length≤N) (hf:a.fields.length+b.fields.length≤N) (hts:a.text.size+1≤N) (hT:Lib.Utf8Tabs 1 2 w) (hm:∃ m:Int,w.cell? ⟨0,0,none⟩=some (.int .i64 m)) (hv:ValD.At w B N a cs) (hu:ValD.At w B N b ds) (ha:a.kind=2) (hb:b.kind=2) (g43:(op.toList==[43])=false) (g45:(op.toList==[45])=false) (g47:(op.toList==[47])=false) (g42:(op.toList==[42])=false) (g37:(op.toList==[37])=false) :
 Calls Tryz.prog 12 #[.string op,.agg cs.toArray,.agg ds.toArray] w (ResR B N ((zeroD,1)) w):=by
 have hq:=And.intro (And.intro (And.intro (And.intro hB hN) hN2) (And.intro ca cb)) (And.intro (And.intro fa fb) (And.intro hs (And.intro hl hf)));have hq2:=And.intro hts (And.intro hT hm);clear hq hq2
 obtain ⟨ya,la,va,yc,lc,vc,hh⟩:=hv.has
 obtain ⟨yb,lb,vb,yd,ld,vd,hg⟩:=hu.has
 have HV:=Hd hv
 have HU:=Hd hu
 have HH:=Hd hh
 have HG:=Hd hg
 have hz1:=Hd (show (Tryz.prog.info? 30).map (·.size)=some cs.length by rw [hv.len];exact sizeV)
 have hz2:=Hd (show (Tryz.prog.info? 30).map (·.size)=some ds.length by rw [hu.len];exact sizeV)
 have DA:=Hd (okC_of 48 a 0 ca)
 have DB:=Hd (okC_of 48 b 0 cb)
 have CA:=Hd ca
 have CB:=Hd cb
 have FA:=Hd fa
 have FB:=Hd fb
 have HTB:=Hd hT
 have HMZ:=Hd hm
 clear hT hm
 have hT:=Hd (tval w cs ds [.int .i64 0,.bool false,.bool false,.string ⟨#[]⟩,.int .i64 0,.int .i64 0,.int .i64 0,.int .i64 0,.int .i64 0,.string ⟨#[]⟩,.slice none 0 0,.slice none 0 0,.slice none 0 0])
 have ek:=hT.out.one.cell hh.kind
 have fk:=hT.out.two.cell hg.kind
 have hq:=And.intro ha hb;clear hq
 rw [ha] at ek
 rw [hb] at fk
 clear ha hb
 clear hv hu hh hg ca cb fa fb
 go_enter Tryz.func12,Tryz.ntmps12
 go_wp2_with fail
 refine (none_ref 1 _).mono ?_
 rintro e wC ⟨rfl,hb⟩
 have hT2:=Hd (hT.out.later hb)
 clear hb hT
 have hT:=hT2
 clear hT2
 go_wp2_with ((with_reducible show wpList _ _ _ (⟨none,.store 30 (.tmp 6) _,_,_,_,_⟩::_) _ _);refine wpList_store_row rfl 30 _ _ rfl (w.heap.size+1+1) zeroV rfl rfl 30 zeroV hT.out.res (sizeZ) (rfl) (oneZ) ?_)
 refine bodyPost_ret (results_cell_row2 rfl _ _ (w.heap.size+1+1) 30 _ (0,0) _ rfl (hT.out.put zeroV.toList).res Tryz.underlying30 rfl sizeZ) rfl ?_
 exact zero_intoB hT.out (rfl)
theorem arith_r (op:ByteArray) (a b:ValD) (w:World) (B N:Nat) (cs ds:List Value) (hB:B≤w.heap.size) (hN:N≤4294967296) (hN2:120≤N) (ca:chkD a=0) (cb:chkD b=0) (fa:fitsV 60 a) (fb:fitsV 60 b) (hs:a.text.size+b.text.size≤N) (hl:a.list.length+b.list.length≤N) (hf:a.fields.length+b.fields.length≤N) (hts:a.text.size+1≤N) (hT:Lib.Utf8Tabs 1 2 w) (hm:∃ m:Int,w.cell? ⟨0,0,none⟩=some (.int .i64 m)) (hv:ValD.At w B N a cs) (hu:ValD.At w B N b ds) :
 Calls Tryz.prog 12 #[.string op,.agg cs.toArray,.agg ds.toArray] w (ResR B N (arithV op a b) w):=by
 unfold arithV
 by_cases o1:op.toList=[43]
 ·rw [if_pos o1,op_lit o1]
  by_cases h1:a.kind=2
  ·by_cases h2:b.kind=2
   ·exact ar_pl_c_r a b w B N cs ds hB hN hN2 ca cb fa fb hs hl hf hts hT hm hv hu h1 h2
   ·exact ar_pl_b_r a b w B N cs ds hB hN hN2 ca cb fa fb hs hl hf hts hT hm hv hu h1 h2
  ·exact ar_pl_a_r a b w B N cs ds hB hN hN2 ca cb fa fb hs hl hf hts hT hm hv hu h1 trivial
 rw [if_neg o1]
 by_cases o2:op.toList=[45]
 ·rw [if_pos o2,op_lit o2]
  by_cases h1:a.kind=2
  ·by_cases h2:b.kind=2
   ·exact ar_mi_c_r a b w B N cs ds hB hN hN2 ca cb fa fb hs hl hf hts hT hm hv hu h1 h2
   ·exact ar_mi_b_r a b w B N cs ds hB hN hN2 ca cb fa fb hs hl hf hts hT hm hv hu h1 h2
  ·exact ar_mi_a_r a b w B N cs ds hB hN hN2 ca cb fa fb hs hl hf hts hT hm hv hu h1 trivial
 rw [if_neg o2]
 by_cases o3:op.toList=[47]
 ·rw [if_pos o3,op_lit o3]
  by_cases h1:a.kind=2
  ·by_cases h2:b.kind=2
   ·exact ar_qu_c_r a b w B N cs ds hB hN hN2 ca cb fa fb hs hl hf hts hT hm hv hu h1 h2
   ·exact ar_qu_b_r a b w B N cs ds hB hN hN2 ca cb fa fb hs hl hf hts hT hm hv hu h1 h2
  ·exact ar_qu_a_r a b w B N cs ds hB hN hN2 ca cb fa fb hs hl hf hts hT hm hv hu h1 trivial
 rw [if_neg o3]
 by_cases o4:op.toList=[42]
 ·rw [if_pos o4,op_lit o4]
  by_cases h1:a.kind=2
  ·by_cases h2:b.kind=2
   ·exact ar_ti_c_r a b w B N cs ds hB hN hN2 ca cb fa fb hs hl hf hts hT hm hv hu h1 h2
   ·exact ar_ti_b_r a b w B N cs ds hB hN hN2 ca cb fa fb hs hl hf hts hT hm hv hu h1 h2
  ·exact ar_ti_a_r a b w B N cs ds hB hN hN2 ca cb fa fb hs hl hf hts hT hm hv hu h1 trivial
 rw [if_neg o4]
 by_cases o5:op.toList=[37]
 ·rw [if_pos o5,op_lit o5]
  by_cases h1:a.kind=2
  ·by_cases h2:b.kind=2
   ·cases hx:decide (0≤a.num.exp) with
    | false=>exact ar_re_c0_r a b w B N cs ds hB hN hN2 ca cb fa fb hs hl hf hts hT hm hv hu h1 h2 hx trivial
    | true =>
      cases hy:decide (0≤b.num.exp) with
      | false=>exact ar_re_c1_r a b w B N cs ds hB hN hN2 ca cb fa fb hs hl hf hts hT hm hv hu h1 h2 hx hy
      | true=>exact ar_re_c2_r a b w B N cs ds hB hN hN2 ca cb fa fb hs hl hf hts hT hm hv hu h1 h2 hx hy
   ·exact ar_re_b_r a b w B N cs ds hB hN hN2 ca cb fa fb hs hl hf hts hT hm hv hu h1 h2
  ·exact ar_re_a_r a b w B N cs ds hB hN hN2 ca cb fa fb hs hl hf hts hT hm hv hu h1 trivial
 rw [if_neg o5]
 have g43:(op.toList==[43])=false:=by simpa using o1
 have g45:(op.toList==[45])=false:=by simpa using o2
 have g47:(op.toList==[47])=false:=by simpa using o3
 have g42:(op.toList==[42])=false:=by simpa using o4
 have g37:(op.toList==[37])=false:=by simpa using o5
 by_cases h1:a.kind=2
 ·by_cases h2:b.kind=2
  ·exact ar_no_c_r op a b w B N cs ds hB hN hN2 ca cb fa fb hs hl hf hts hT hm hv hu h1 h2 g43 g45 g47 g42 g37
  ·exact ar_no_b_r op a b w B N cs ds hB hN hN2 ca cb fa fb hs hl hf hts hT hm hv hu h1 h2 g43 g45 g47 g42 g37
 ·exact ar_no_a_r op a b w B N cs ds hB hN hN2 ca cb fa fb hs hl hf hts hT hm hv hu h1 trivial g43 g45 g47 g42 g37
end Go.Proofs.YtmjfggadehkbjaaGreatDoor
