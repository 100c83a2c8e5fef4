/- The program's Arith of differences. -/
import Derived.Test.YtmjfggadehkbjaaGreatDoorProg
import Derived.Test.YtmjfggadehkbjaaGreatDoorGA
import Derived.Test.YtmjfggadehkbjaaGreatDoorGB
import Derived.Test.YtmjfggadehkbjaaGreatDoorGC
import Derived.Test.YtmjfggadehkbjaaGreatDoorShelf
import Derived.Test.YtmjfggadehkbjaaGreatDoorGD
import Derived.Test.YtmjfggadehkbjaaGreatDoorGF
import Derived.Test.YtmjfggadehkbjaaGreatDoorChkq
import Derived.Test.YtmjfggadehkbjaaGreatDoorXA
import Derived.Test.YtmjfggadehkbjaaGreatDoorXD
import Derived.Test.YtmjfggadehkbjaaGreatDoorXK
import Derived.Test.YtmjfggadehkbjaaGreatDoorAB
import Derived.Test.YtmjfggadehkbjaaGreatDoorAra09
import Derived.Test.YtmjfggadehkbjaaGreatDoorAD
import Derived.Test.YtmjfggadehkbjaaGreatDoorAE
import Derived.Test.YtmjfggadehkbjaaGreatDoorAF
import Derived.Test.YtmjfggadehkbjaaGreatDoorAI
import Derived.Test.YtmjfggadehkbjaaGreatDoorAL
import Derived.Test.YtmjfggadehkbjaaGreatDoorAK
import Derived.Test.YtmjfggadehkbjaaGreatDoorArc04
namespace Go.Proofs.YtmjfggadehkbjaaGreatDoor
open Go.RowKit Stb
def minusV (a b:ValD):ValD×Int:=if a.kind=2∧b.kind=2 then numQ (subD a.num b.num) else if a.kind=6∧b.kind=6 then resD (lisD (withoutL 47 a.list b.list)) else (zeroD,6)
theorem subD_small (a b:DecD):SmallD (subD a b).1:=by unfold subD;exact addD_small _ _
set_option maxRecDepth 100000 in
set_option maxHeartbeats 3200000 in
theorem ar_mi_x_p (a b:ValD) (w:World) (B N:Nat) (cs ds:List Value) (hB:B≤w.heap.size) (hN:N≤4294967296) (hN2:120≤N) (ca:chkD a=0) (cb:chkD b=0) (fa:fitsV 60 a) (fb:fitsV 60 b) (hs:a.text.size+b.text.size≤N) (hl:a.list.length+b.list.length≤N) (hf:a.fields.length+b.fields.length≤N) (hts:a.text.size+1≤N) (hT:Lib.Utf8Tabs 1 2 w) (hm:∃ m:Int,w.cell? ⟨0,0,none⟩=some (.int .i64 m)) (hv:ValD.At w B N a cs) (hu:ValD.At w B N b ds) (hne:a.kind≠b.kind) :
 Calls Tryz.prog 11 #[.string ⟨#[45]⟩,.agg cs.toArray,.agg ds.toArray] w (ResR B N (minusV a b) w):=by
 have hq:=And.intro (And.intro (And.intro (And.intro hB hN) hN2) (And.intro ca cb)) (And.intro (And.intro fa fb) (And.intro hs (And.intro hl hf)));have hq2:=And.intro hts (And.intro hT hm);clear hq hq2
 obtain ⟨ya,la,va,yc,lc,vc,hh⟩:=hv.has
 obtain ⟨yb,lb,vb,yd,ld,vd,hg⟩:=hu.has
 have HV:=Hd hv
 have HU:=Hd hu
 have HH:=Hd hh
 have HG:=Hd hg
 have hz1:=Hd (show (Tryz.prog.info? 30).map (·.size)=some cs.length by rw [hv.len];exact sizeV)
 have hz2:=Hd (show (Tryz.prog.info? 30).map (·.size)=some ds.length by rw [hu.len];exact sizeV)
 have DA:=Hd (okC_of 48 a 0 ca)
 have DB:=Hd (okC_of 48 b 0 cb)
 have CA:=Hd ca
 have CB:=Hd cb
 have FA:=Hd fa
 have FB:=Hd fb
 have HTB:=Hd hT
 have HMZ:=Hd hm
 clear hT hm
 have hT:=Hd (tval w cs ds [.int .i64 0,.bool false,.bool false,.string ⟨#[]⟩,.int .i64 0,.int .i64 0,.int .i64 0,.int .i64 0,.int .i64 0,.string ⟨#[]⟩,.slice none 0 0,.slice none 0 0,.slice none 0 0])
 have ek:=hT.out.one.cell hh.kind
 have fk:=hT.out.two.cell hg.kind
 obtain ⟨m0,hm0⟩:=zero_cell HMZ.out hT.out.below
 have hcon:=Tryz.strings_Contains ⟨#[43,45,42,47,37]⟩ ⟨#[45]⟩ m0 _ (by decide) hm0
 rw [show Lib.contains (⟨#[43,45,42,47,37]⟩:ByteArray).data.toList (⟨#[45]⟩:ByteArray).data.toList=true by decide] at hcon
 have HCON:=Hd hcon
 clear hcon hm0
 have HQ:=Hd (show minusV a b=(zeroD,6) by unfold minusV;rw [if_neg (by omega),if_neg (by omega)])
 have kc:(a.kind != b.kind)=true:=by simpa using hne
 clear hne
 clear hv hu hh hg ca cb fa fb
 go_enter Tryz.func11,Tryz.ntmps11
 go_wp2_with fail
 refine HCON.out.mono ?_
 rintro e wC ⟨rfl,rfl⟩
 clear HCON
 go_wp2_with ((with_reducible show wpList _ _ _ (⟨none,.store 30 (.tmp 6) _,_,_,_,_⟩::_) _ _);refine wpList_store_row rfl 30 _ _ rfl (w.heap.size+1+1) zeroV rfl rfl 30 zeroV hT.out.res (sizeZ) (rfl) (oneZ) ?_)
 refine bodyPost_ret (results_cell_row2 rfl _ _ (w.heap.size+1+1) 30 _ (0,0) _ rfl (hT.out.put zeroV.toList).res Tryz.underlying30 rfl sizeZ) rfl ?_
 exact zero_intoB hT.out (HQ.out)
set_option maxRecDepth 100000 in
set_option maxHeartbeats 3200000 in
theorem ar_mi_0_p (a b:ValD) (w:World) (B N:Nat) (cs ds:List Value) (hB:B≤w.heap.size) (hN:N≤4294967296) (hN2:120≤N) (ca:chkD a=0) (cb:chkD b=0) (fa:fitsV 60 a) (fb:fitsV 60 b) (hs:a.text.size+b.text.size≤N) (hl:a.list.length+b.list.length≤N) (hf:a.fields.length+b.fields.length≤N) (hts:a.text.size+1≤N) (hT:Lib.Utf8Tabs 1 2 w) (hm:∃ m:Int,w.cell? ⟨0,0,none⟩=some (.int .i64 m)) (hv:ValD.At w B N a cs) (hu:ValD.At w B N b ds) (ha:a.kind=0) (hb:b.kind=0) :
 Calls Tryz.prog 11 #[.string ⟨#[45]⟩,.agg cs.toArray,.agg ds.toArray] w (ResR B N (minusV a b) w):=by
 have hq:=And.intro (And.intro (And.intro (And.intro hB hN) hN2) (And.intro ca cb)) (And.intro (And.intro fa fb) (And.intro hs (And.intro hl hf)));have hq2:=And.intro hts (And.intro hT hm);clear hq hq2
 obtain ⟨ya,la,va,yc,lc,vc,hh⟩:=hv.has
 obtain ⟨yb,lb,vb,yd,ld,vd,hg⟩:=hu.has
 have HV:=Hd hv
 have HU:=Hd hu
 have HH:=Hd hh
 have HG:=Hd hg
 have hz1:=Hd (show (Tryz.prog.info? 30).map (·.size)=some cs.length by rw [hv.len];exact sizeV)
 have hz2:=Hd (show (Tryz.prog.info? 30).map (·.size)=some ds.length by rw [hu.len];exact sizeV)
 have DA:=Hd (okC_of 48 a 0 ca)
 have DB:=Hd (okC_of 48 b 0 cb)
 have CA:=Hd ca
 have CB:=Hd cb
 have FA:=Hd fa
 have FB:=Hd fb
 have HTB:=Hd hT
 have HMZ:=Hd hm
 clear hT hm
 have hT:=Hd (tval w cs ds [.int .i64 0,.bool false,.bool false,.string ⟨#[]⟩,.int .i64 0,.int .i64 0,.int .i64 0,.int .i64 0,.int .i64 0,.string ⟨#[]⟩,.slice none 0 0,.slice none 0 0,.slice none 0 0])
 have ek:=hT.out.one.cell hh.kind
 have fk:=hT.out.two.cell hg.kind
 obtain ⟨m0,hm0⟩:=zero_cell HMZ.out hT.out.below
 have hcon:=Tryz.strings_Contains ⟨#[43,45,42,47,37]⟩ ⟨#[45]⟩ m0 _ (by decide) hm0
 rw [show Lib.contains (⟨#[43,45,42,47,37]⟩:ByteArray).data.toList (⟨#[45]⟩:ByteArray).data.toList=true by decide] at hcon
 have HCON:=Hd hcon
 clear hcon hm0
 have HQ:=Hd (show minusV a b=(zeroD,6) by unfold minusV;rw [if_neg (by omega),if_neg (by omega)])
 rw [ha] at ek
 rw [hb] at fk
 clear ha hb
 clear hv hu hh hg ca cb fa fb
 go_enter Tryz.func11,Tryz.ntmps11
 go_wp2_with fail
 refine HCON.out.mono ?_
 rintro e wC ⟨rfl,rfl⟩
 clear HCON
 go_wp2_with ((with_reducible show wpList _ _ _ (⟨none,.store 30 (.tmp 6) _,_,_,_,_⟩::_) _ _);refine wpList_store_row rfl 30 _ _ rfl (w.heap.size+1+1) zeroV rfl rfl 30 zeroV hT.out.res (sizeZ) (rfl) (oneZ) ?_)
 refine bodyPost_ret (results_cell_row2 rfl _ _ (w.heap.size+1+1) 30 _ (0,0) _ rfl (hT.out.put zeroV.toList).res Tryz.underlying30 rfl sizeZ) rfl ?_
 exact zero_intoB hT.out (HQ.out)
set_option maxRecDepth 100000 in
set_option maxHeartbeats 3200000 in
theorem ar_mi_1_p (a b:ValD) (w:World) (B N:Nat) (cs ds:List Value) (hB:B≤w.heap.size) (hN:N≤4294967296) (hN2:120≤N) (ca:chkD a=0) (cb:chkD b=0) (fa:fitsV 60 a) (fb:fitsV 60 b) (hs:a.text.size+b.text.size≤N) (hl:a.list.length+b.list.length≤N) (hf:a.fields.length+b.fields.length≤N) (hts:a.text.size+1≤N) (hT:Lib.Utf8Tabs 1 2 w) (hm:∃ m:Int,w.cell? ⟨0,0,none⟩=some (.int .i64 m)) (hv:ValD.At w B N a cs) (hu:ValD.At w B N b ds) (ha:a.kind=1) (hb:b.kind=1) :
 Calls Tryz.prog 11 #[.string ⟨#[45]⟩,.agg cs.toArray,.agg ds.toArray] w (ResR B N (minusV a b) w):=by
 have hq:=And.intro (And.intro (And.intro (And.intro hB hN) hN2) (And.intro ca cb)) (And.intro (And.intro fa fb) (And.intro hs (And.intro hl hf)));have hq2:=And.intro hts (And.intro hT hm);clear hq hq2
 obtain ⟨ya,la,va,yc,lc,vc,hh⟩:=hv.has
 obtain ⟨yb,lb,vb,yd,ld,vd,hg⟩:=hu.has
 have HV:=Hd hv
 have HU:=Hd hu
 have HH:=Hd hh
 have HG:=Hd hg
 have hz1:=Hd (show (Tryz.prog.info? 30).map (·.size)=some cs.length by rw [hv.len];exact sizeV)
 have hz2:=Hd (show (Tryz.prog.info? 30).map (·.size)=some ds.length by rw [hu.len];exact sizeV)
 have DA:=Hd (okC_of 48 a 0 ca)
 have DB:=Hd (okC_of 48 b 0 cb)
 have CA:=Hd ca
 have CB:=Hd cb
 have FA:=Hd fa
 have FB:=Hd fb
 have HTB:=Hd hT
 have HMZ:=Hd hm
 clear hT hm
 have hT:=Hd (tval w cs ds [.int .i64 0,.bool false,.bool false,.string ⟨#[]⟩,.int .i64 0,.int .i64 0,.int .i64 0,.int .i64 0,.int .i64 0,.string ⟨#[]⟩,.slice none 0 0,.slice none 0 0,.slice none 0 0])
 have ek:=hT.out.one.cell hh.kind
 have fk:=hT.out.two.cell hg.kind
 obtain ⟨m0,hm0⟩:=zero_cell HMZ.out hT.out.below
 have hcon:=Tryz.strings_Contains ⟨#[43,45,42,47,37]⟩ ⟨#[45]⟩ m0 _ (by decide) hm0
 rw [show Lib.contains (⟨#[43,45,42,47,37]⟩:ByteArray).data.toList (⟨#[45]⟩:ByteArray).data.toList=true by decide] at hcon
 have HCON:=Hd hcon
 clear hcon hm0
 have HQ:=Hd (show minusV a b=(zeroD,6) by unfold minusV;rw [if_neg (by omega),if_neg (by omega)])
 rw [ha] at ek
 rw [hb] at fk
 clear ha hb
 clear hv hu hh hg ca cb fa fb
 go_enter Tryz.func11,Tryz.ntmps11
 go_wp2_with fail
 refine HCON.out.mono ?_
 rintro e wC ⟨rfl,rfl⟩
 clear HCON
 go_wp2_with ((with_reducible show wpList _ _ _ (⟨none,.store 30 (.tmp 6) _,_,_,_,_⟩::_) _ _);refine wpList_store_row rfl 30 _ _ rfl (w.heap.size+1+1) zeroV rfl rfl 30 zeroV hT.out.res (sizeZ) (rfl) (oneZ) ?_)
 refine bodyPost_ret (results_cell_row2 rfl _ _ (w.heap.size+1+1) 30 _ (0,0) _ rfl (hT.out.put zeroV.toList).res Tryz.underlying30 rfl sizeZ) rfl ?_
 exact zero_intoB hT.out (HQ.out)
set_option maxRecDepth 100000 in
set_option maxHeartbeats 3200000 in
theorem ar_mi_3_p (a b:ValD) (w:World) (B N:Nat) (cs ds:List Value) (hB:B≤w.heap.size) (hN:N≤4294967296) (hN2:120≤N) (ca:chkD a=0) (cb:chkD b=0) (fa:fitsV 60 a) (fb:fitsV 60 b) (hs:a.text.size+b.text.size≤N) (hl:a.list.length+b.list.length≤N) (hf:a.fields.length+b.fields.length≤N) (hts:a.text.size+1≤N) (hT:Lib.Utf8Tabs 1 2 w) (hm:∃ m:Int,w.cell? ⟨0,0,none⟩=some (.int .i64 m)) (hv:ValD.At w B N a cs) (hu:ValD.At w B N b ds) (ha:a.kind=3) (hb:b.kind=3) :
 Calls Tryz.prog 11 #[.string ⟨#[45]⟩,.agg cs.toArray,.agg ds.toArray] w (ResR B N (minusV a b) w):=by
 have hq:=And.intro (And.intro (And.intro (And.intro hB hN) hN2) (And.intro ca cb)) (And.intro (And.intro fa fb) (And.intro hs (And.intro hl hf)));have hq2:=And.intro hts (And.intro hT hm);clear hq hq2
 obtain ⟨ya,la,va,yc,lc,vc,hh⟩:=hv.has
 obtain ⟨yb,lb,vb,yd,ld,vd,hg⟩:=hu.has
 have HV:=Hd hv
 have HU:=Hd hu
 have HH:=Hd hh
 have HG:=Hd hg
 have hz1:=Hd (show (Tryz.prog.info? 30).map (·.size)=some cs.length by rw [hv.len];exact sizeV)
 have hz2:=Hd (show (Tryz.prog.info? 30).map (·.size)=some ds.length by rw [hu.len];exact sizeV)
 have DA:=Hd (okC_of 48 a 0 ca)
 have DB:=Hd (okC_of 48 b 0 cb)
 have CA:=Hd ca
 have CB:=Hd cb
 have FA:=Hd fa
 have FB:=Hd fb
 have HTB:=Hd hT
 have HMZ:=Hd hm
 clear hT hm
 have hT:=Hd (tval w cs ds [.int .i64 0,.bool false,.bool false,.string ⟨#[]⟩,.int .i64 0,.int .i64 0,.int .i64 0,.int .i64 0,.int .i64 0,.string ⟨#[]⟩,.slice none 0 0,.slice none 0 0,.slice none 0 0])
 have ek:=hT.out.one.cell hh.kind
 have fk:=hT.out.two.cell hg.kind
 obtain ⟨m0,hm0⟩:=zero_cell HMZ.out hT.out.below
 have hcon:=Tryz.strings_Contains ⟨#[43,45,42,47,37]⟩ ⟨#[45]⟩ m0 _ (by decide) hm0
 rw [show Lib.contains (⟨#[43,45,42,47,37]⟩:ByteArray).data.toList (⟨#[45]⟩:ByteArray).data.toList=true by decide] at hcon
 have HCON:=Hd hcon
 clear hcon hm0
 have HQ:=Hd (show minusV a b=(zeroD,6) by unfold minusV;rw [if_neg (by omega),if_neg (by omega)])
 rw [ha] at ek
 rw [hb] at fk
 clear ha hb
 clear hv hu hh hg ca cb fa fb
 go_enter Tryz.func11,Tryz.ntmps11
 go_wp2_with fail
 refine HCON.out.mono ?_
 rintro e wC ⟨rfl,rfl⟩
 clear HCON
 go_wp2_with ((with_reducible show wpList _ _ _ (⟨none,.store 30 (.tmp 6) _,_,_,_,_⟩::_) _ _);refine wpList_store_row rfl 30 _ _ rfl (w.heap.size+1+1) zeroV rfl rfl 30 zeroV hT.out.res (sizeZ) (rfl) (oneZ) ?_)
 refine bodyPost_ret (results_cell_row2 rfl _ _ (w.heap.size+1+1) 30 _ (0,0) _ rfl (hT.out.put zeroV.toList).res Tryz.underlying30 rfl sizeZ) rfl ?_
 exact zero_intoB hT.out (HQ.out)
set_option maxRecDepth 100000 in
set_option maxHeartbeats 3200000 in
theorem ar_mi_4_p (a b:ValD) (w:World) (B N:Nat) (cs ds:List Value) (hB:B≤w.heap.size) (hN:N≤4294967296) (hN2:120≤N) (ca:chkD a=0) (cb:chkD b=0) (fa:fitsV 60 a) (fb:fitsV 60 b) (hs:a.text.size+b.text.size≤N) (hl:a.list.length+b.list.length≤N) (hf:a.fields.length+b.fields.length≤N) (hts:a.text.size+1≤N) (hT:Lib.Utf8Tabs 1 2 w) (hm:∃ m:Int,w.cell? ⟨0,0,none⟩=some (.int .i64 m)) (hv:ValD.At w B N a cs) (hu:ValD.At w B N b ds) (ha:a.kind=4) (hb:b.kind=4) :
 Calls Tryz.prog 11 #[.string ⟨#[45]⟩,.agg cs.toArray,.agg ds.toArray] w (ResR B N (minusV a b) w):=by
 have hq:=And.intro (And.intro (And.intro (And.intro hB hN) hN2) (And.intro ca cb)) (And.intro (And.intro fa fb) (And.intro hs (And.intro hl hf)));have hq2:=And.intro hts (And.intro hT hm);clear hq hq2
 obtain ⟨ya,la,va,yc,lc,vc,hh⟩:=hv.has
 obtain ⟨yb,lb,vb,yd,ld,vd,hg⟩:=hu.has
 have HV:=Hd hv
 have HU:=Hd hu
 have HH:=Hd hh
 have HG:=Hd hg
 have hz1:=Hd (show (Tryz.prog.info? 30).map (·.size)=some cs.length by rw [hv.len];exact sizeV)
 have hz2:=Hd (show (Tryz.prog.info? 30).map (·.size)=some ds.length by rw [hu.len];exact sizeV)
 have DA:=Hd (okC_of 48 a 0 ca)
 have DB:=Hd (okC_of 48 b 0 cb)
 have CA:=Hd ca
 have CB:=Hd cb
 have FA:=Hd fa
 have FB:=Hd fb
 have HTB:=Hd hT
 have HMZ:=Hd hm
 clear hT hm
 have hT:=Hd (tval w cs ds [.int .i64 0,.bool false,.bool false,.string ⟨#[]⟩,.int .i64 0,.int .i64 0,.int .i64 0,.int .i64 0,.int .i64 0,.string ⟨#[]⟩,.slice none 0 0,.slice none 0 0,.slice none 0 0])
 have ek:=hT.out.one.cell hh.kind
 have fk:=hT.out.two.cell hg.kind
 obtain ⟨m0,hm0⟩:=zero_cell HMZ.out hT.out.below
 have hcon:=Tryz.strings_Contains ⟨#[43,45,42,47,37]⟩ ⟨#[45]⟩ m0 _ (by decide) hm0
 rw [show Lib.contains (⟨#[43,45,42,47,37]⟩:ByteArray).data.toList (⟨#[45]⟩:ByteArray).data.toList=true by decide] at hcon
 have HCON:=Hd hcon
 clear hcon hm0
 have HQ:=Hd (show minusV a b=(zeroD,6) by unfold minusV;rw [if_neg (by omega),if_neg (by omega)])
 rw [ha] at ek
 rw [hb] at fk
 clear ha hb
 clear hv hu hh hg ca cb fa fb
 go_enter Tryz.func11,Tryz.ntmps11
 go_wp2_with fail
 refine HCON.out.mono ?_
 rintro e wC ⟨rfl,rfl⟩
 clear HCON
 go_wp2_with ((with_reducible show wpList _ _ _ (⟨none,.store 30 (.tmp 6) _,_,_,_,_⟩::_) _ _);refine wpList_store_row rfl 30 _ _ rfl (w.heap.size+1+1) zeroV rfl rfl 30 zeroV hT.out.res (sizeZ) (rfl) (oneZ) ?_)
 refine bodyPost_ret (results_cell_row2 rfl _ _ (w.heap.size+1+1) 30 _ (0,0) _ rfl (hT.out.put zeroV.toList).res Tryz.underlying30 rfl sizeZ) rfl ?_
 exact zero_intoB hT.out (HQ.out)
set_option maxRecDepth 100000 in
set_option maxHeartbeats 3200000 in
theorem ar_mi_5_p (a b:ValD) (w:World) (B N:Nat) (cs ds:List Value) (hB:B≤w.heap.size) (hN:N≤4294967296) (hN2:120≤N) (ca:chkD a=0) (cb:chkD b=0) (fa:fitsV 60 a) (fb:fitsV 60 b) (hs:a.text.size+b.text.size≤N) (hl:a.list.length+b.list.length≤N) (hf:a.fields.length+b.fields.length≤N) (hts:a.text.size+1≤N) (hT:Lib.Utf8Tabs 1 2 w) (hm:∃ m:Int,w.cell? ⟨0,0,none⟩=some (.int .i64 m)) (hv:ValD.At w B N a cs) (hu:ValD.At w B N b ds) (ha:a.kind=5) (hb:b.kind=5) :
 Calls Tryz.prog 11 #[.string ⟨#[45]⟩,.agg cs.toArray,.agg ds.toArray] w (ResR B N (minusV a b) w):=by
 have hq:=And.intro (And.intro (And.intro (And.intro hB hN) hN2) (And.intro ca cb)) (And.intro (And.intro fa fb) (And.intro hs (And.intro hl hf)));have hq2:=And.intro hts (And.intro hT hm);clear hq hq2
 obtain ⟨ya,la,va,yc,lc,vc,hh⟩:=hv.has
 obtain ⟨yb,lb,vb,yd,ld,vd,hg⟩:=hu.has
 have HV:=Hd hv
 have HU:=Hd hu
 have HH:=Hd hh
 have HG:=Hd hg
 have hz1:=Hd (show (Tryz.prog.info? 30).map (·.size)=some cs.length by rw [hv.len];exact sizeV)
 have hz2:=Hd (show (Tryz.prog.info? 30).map (·.size)=some ds.length by rw [hu.len];exact sizeV)
 have DA:=Hd (okC_of 48 a 0 ca)
 have DB:=Hd (okC_of 48 b 0 cb)
 have CA:=Hd ca
 have CB:=Hd cb
 have FA:=Hd fa
 have FB:=Hd fb
 have HTB:=Hd hT
 have HMZ:=Hd hm
 clear hT hm
 have hT:=Hd (tval w cs ds [.int .i64 0,.bool false,.bool false,.string ⟨#[]⟩,.int .i64 0,.int .i64 0,.int .i64 0,.int .i64 0,.int .i64 0,.string ⟨#[]⟩,.slice none 0 0,.slice none 0 0,.slice none 0 0])
 have ek:=hT.out.one.cell hh.kind
 have fk:=hT.out.two.cell hg.kind
 obtain ⟨m0,hm0⟩:=zero_cell HMZ.out hT.out.below
 have hcon:=Tryz.strings_Contains ⟨#[43,45,42,47,37]⟩ ⟨#[45]⟩ m0 _ (by decide) hm0
 rw [show Lib.contains (⟨#[43,45,42,47,37]⟩:ByteArray).data.toList (⟨#[45]⟩:ByteArray).data.toList=true by decide] at hcon
 have HCON:=Hd hcon
 clear hcon hm0
 have HQ:=Hd (show minusV a b=(zeroD,6) by unfold minusV;rw [if_neg (by omega),if_neg (by omega)])
 rw [ha] at ek
 rw [hb] at fk
 clear ha hb
 clear hv hu hh hg ca cb fa fb
 go_enter Tryz.func11,Tryz.ntmps11
 go_wp2_with fail
 refine HCON.out.mono ?_
 rintro e wC ⟨rfl,rfl⟩
 clear HCON
 go_wp2_with ((with_reducible show wpList _ _ _ (⟨none,.store 30 (.tmp 6) _,_,_,_,_⟩::_) _ _);refine wpList_store_row rfl 30 _ _ rfl (w.heap.size+1+1) zeroV rfl rfl 30 zeroV hT.out.res (sizeZ) (rfl) (oneZ) ?_)
 refine bodyPost_ret (results_cell_row2 rfl _ _ (w.heap.size+1+1) 30 _ (0,0) _ rfl (hT.out.put zeroV.toList).res Tryz.underlying30 rfl sizeZ) rfl ?_
 exact zero_intoB hT.out (HQ.out)
set_option maxRecDepth 100000 in
set_option maxHeartbeats 3200000 in
theorem ar_mi_7_p (a b:ValD) (w:World) (B N:Nat) (cs ds:List Value) (hB:B≤w.heap.size) (hN:N≤4294967296) (hN2:120≤N) (ca:chkD a=0) (cb:chkD b=0) (fa:fitsV 60 a) (fb:fitsV 60 b) (hs:a.text.size+b.text.size≤N) (hl:a.list.length+b.list.length≤N) (hf:a.fields.length+b.fields.length≤N) (hts:a.text.size+1≤N) (hT:Lib.Utf8Tabs 1 2 w) (hm:∃ m:Int,w.cell? ⟨0,0,none⟩=some (.int .i64 m)) (hv:ValD.At w B N a cs) (hu:ValD.At w B N b ds) (ha:a.kind=7) (hb:b.kind=7) :
 Calls Tryz.prog 11 #[.string ⟨#[45]⟩,.agg cs.toArray,.agg ds.toArray] w (ResR B N (minusV a b) w):=by
 have hq:=And.intro (And.intro (And.intro (And.intro hB hN) hN2) (And.intro ca cb)) (And.intro (And.intro fa fb) (And.intro hs (And.intro hl hf)));have hq2:=And.intro hts (And.intro hT hm);clear hq hq2
 obtain ⟨ya,la,va,yc,lc,vc,hh⟩:=hv.has
 obtain ⟨yb,lb,vb,yd,ld,vd,hg⟩:=hu.has
 have HV:=Hd hv
 have HU:=Hd hu
 have HH:=Hd hh
 have HG:=Hd hg
 have hz1:=Hd (show (Tryz.prog.info? 30).map (·.size)=some cs.length by rw [hv.len];exact sizeV)
 have hz2:=Hd (show (Tryz.prog.info? 30).map (·.size)=some ds.length by rw [hu.len];exact sizeV)
 have DA:=Hd (okC_of 48 a 0 ca)
 have DB:=Hd (okC_of 48 b 0 cb)
 have CA:=Hd ca
 have CB:=Hd cb
 have FA:=Hd fa
 have FB:=Hd fb
 have HTB:=Hd hT
 have HMZ:=Hd hm
 clear hT hm
 have hT:=Hd (tval w cs ds [.int .i64 0,.bool false,.bool false,.string ⟨#[]⟩,.int .i64 0,.int .i64 0,.int .i64 0,.int .i64 0,.int .i64 0,.string ⟨#[]⟩,.slice none 0 0,.slice none 0 0,.slice none 0 0])
 have ek:=hT.out.one.cell hh.kind
 have fk:=hT.out.two.cell hg.kind
 obtain ⟨m0,hm0⟩:=zero_cell HMZ.out hT.out.below
 have hcon:=Tryz.strings_Contains ⟨#[43,45,42,47,37]⟩ ⟨#[45]⟩ m0 _ (by decide) hm0
 rw [show Lib.contains (⟨#[43,45,42,47,37]⟩:ByteArray).data.toList (⟨#[45]⟩:ByteArray).data.toList=true by decide] at hcon
 have HCON:=Hd hcon
 clear hcon hm0
 have HQ:=Hd (show minusV a b=(zeroD,6) by unfold minusV;rw [if_neg (by omega),if_neg (by omega)])
 rw [ha] at ek
 rw [hb] at fk
 clear ha hb
 clear hv hu hh hg ca cb fa fb
 go_enter Tryz.func11,Tryz.ntmps11
 go_wp2_with fail
 refine HCON.out.mono ?_
 rintro e wC ⟨rfl,rfl⟩
 clear HCON
 go_wp2_with ((with_reducible show wpList _ _ _ (⟨none,.store 30 (.tmp 6) _,_,_,_,_⟩::_) _ _);refine wpList_store_row rfl 30 _ _ rfl (w.heap.size+1+1) zeroV rfl rfl 30 zeroV hT.out.res (sizeZ) (rfl) (oneZ) ?_)
 refine bodyPost_ret (results_cell_row2 rfl _ _ (w.heap.size+1+1) 30 _ (0,0) _ rfl (hT.out.put zeroV.toList).res Tryz.underlying30 rfl sizeZ) rfl ?_
 exact zero_intoB hT.out (HQ.out)
set_option maxRecDepth 100000 in
set_option maxHeartbeats 3200000 in
theorem ar_mi_n_p (a b:ValD) (w:World) (B N:Nat) (cs ds:List Value) (hB:B≤w.heap.size) (hN:N≤4294967296) (hN2:120≤N) (ca:chkD a=0) (cb:chkD b=0) (fa:fitsV 60 a) (fb:fitsV 60 b) (hs:a.text.size+b.text.size≤N) (hl:a.list.length+b.list.length≤N) (hf:a.fields.length+b.fields.length≤N) (hts:a.text.size+1≤N) (hT:Lib.Utf8Tabs 1 2 w) (hm:∃ m:Int,w.cell? ⟨0,0,none⟩=some (.int .i64 m)) (hv:ValD.At w B N a cs) (hu:ValD.At w B N b ds) (ha:a.kind=2) (hb:b.kind=2) :
 Calls Tryz.prog 11 #[.string ⟨#[45]⟩,.agg cs.toArray,.agg ds.toArray] w (ResR B N (minusV a b) w):=by
 have hq:=And.intro (And.intro (And.intro (And.intro hB hN) hN2) (And.intro ca cb)) (And.intro (And.intro fa fb) (And.intro hs (And.intro hl hf)));have hq2:=And.intro hts (And.intro hT hm);clear hq hq2
 obtain ⟨ya,la,va,yc,lc,vc,hh⟩:=hv.has
 obtain ⟨yb,lb,vb,yd,ld,vd,hg⟩:=hu.has
 have HV:=Hd hv
 have HU:=Hd hu
 have HH:=Hd hh
 have HG:=Hd hg
 have hz1:=Hd (show (Tryz.prog.info? 30).map (·.size)=some cs.length by rw [hv.len];exact sizeV)
 have hz2:=Hd (show (Tryz.prog.info? 30).map (·.size)=some ds.length by rw [hu.len];exact sizeV)
 have DA:=Hd (okC_of 48 a 0 ca)
 have DB:=Hd (okC_of 48 b 0 cb)
 have CA:=Hd ca
 have CB:=Hd cb
 have FA:=Hd fa
 have FB:=Hd fb
 have HTB:=Hd hT
 have HMZ:=Hd hm
 clear hT hm
 have hT:=Hd (tval w cs ds [.int .i64 0,.bool false,.bool false,.string ⟨#[]⟩,.int .i64 0,.int .i64 0,.int .i64 0,.int .i64 0,.int .i64 0,.string ⟨#[]⟩,.slice none 0 0,.slice none 0 0,.slice none 0 0])
 have ek:=hT.out.one.cell hh.kind
 have fk:=hT.out.two.cell hg.kind
 obtain ⟨m0,hm0⟩:=zero_cell HMZ.out hT.out.below
 have hcon:=Tryz.strings_Contains ⟨#[43,45,42,47,37]⟩ ⟨#[45]⟩ m0 _ (by decide) hm0
 rw [show Lib.contains (⟨#[43,45,42,47,37]⟩:ByteArray).data.toList (⟨#[45]⟩:ByteArray).data.toList=true by decide] at hcon
 have HCON:=Hd hcon
 clear hcon hm0
 have HQ:=Hd (show minusV a b=numQ (subD a.num b.num) by unfold minusV;rw [if_pos ⟨ha,hb⟩])
 rw [ha] at ek
 rw [hb] at fk
 clear ha hb
 have eneg:=hT.out.one.cell HH.out.neg
 have fneg:=hT.out.two.cell HG.out.neg
 have edigits:=hT.out.one.cell HH.out.digits
 have fdigits:=hT.out.two.cell HG.out.digits
 have eexp:=hT.out.one.cell HH.out.exp
 have fexp:=hT.out.two.cell HG.out.exp
 clear hv hu hh hg ca cb fa fb
 go_enter Tryz.func11,Tryz.ntmps11
 go_wp2_with fail
 refine HCON.out.mono ?_
 rintro e wC ⟨rfl,rfl⟩
 clear HCON
 go_wp2_with fail
 refine (sub_p a.num b.num _ DA.out.2.1 DB.out.2.1).mono ?_
 rintro e wC ⟨rfl,hb⟩
 have hT2:=Hd (hT.out.later hb)
 clear hb hT
 have hT:=hT2
 clear hT2
 have HSM:=Hd (subD_small a.num b.num)
 obtain ⟨q,hq⟩:∃ q,q=subD a.num b.num:=⟨_,rfl⟩
 rw [← hq] at HSM HQ ⊢
 clear hq
 obtain ⟨qd,qk⟩:=q
 dsimp only
 go_wp2_with fail
 refine (numberq_p qd qk _ B N hN hN2 HSM.out (Nat.le_trans hB hT.out.below.size)).mono ?_
 rintro e wE ⟨xs,rfl,hsol,hb⟩
 obtain ⟨r,hr⟩:∃ r,r=numQ (qd,qk):=⟨_,rfl⟩
 rw [← hr] at hsol ⊢
 have HQ:=Hd (show minusV a b=r by rw [HQ.out,hr])
 have hlen:=hsol.here.len
 have AT:=Hd hsol.here
 have S1:=Hd hsol
 have hT1:=Hd (hT.out.later hb)
 clear hsol hb hr
 obtain ⟨rv,rk⟩:=r
 go_wp2_with ((with_reducible show wpList _ _ _ (⟨none,.store 30 (.tmp 6) _,_,_,_,_⟩::_) _ _);refine wpList_store_row rfl 30 _ _ rfl (w.heap.size+1+1) xs.toArray rfl rfl 30 zeroV hT1.out.res (row_size hlen) (row_zero hlen) (row_ones AT.out) ?_)
 refine bodyPost_ret (results_cell_row2 rfl _ _ (w.heap.size+1+1) 30 _ (0,0) _ rfl (hT1.out.put xs).res Tryz.underlying30 rfl (row_size hlen)) rfl ?_
 rw [HQ.out]
 exact res_intoB hB hT.out hT1.out S1.out
set_option maxRecDepth 100000 in
set_option maxHeartbeats 3200000 in
theorem ar_mi_l_p (a b:ValD) (w:World) (B N:Nat) (cs ds:List Value) (hB:B≤w.heap.size) (hN:N≤4294967296) (hN2:120≤N) (ca:chkD a=0) (cb:chkD b=0) (fa:fitsV 60 a) (fb:fitsV 60 b) (hs:a.text.size+b.text.size≤N) (hl:a.list.length+b.list.length≤N) (hf:a.fields.length+b.fields.length≤N) (hts:a.text.size+1≤N) (hT:Lib.Utf8Tabs 1 2 w) (hm:∃ m:Int,w.cell? ⟨0,0,none⟩=some (.int .i64 m)) (hv:ValD.At w B N a cs) (hu:ValD.At w B N b ds) (ha:a.kind=6) (hb:b.kind=6) :
 Calls Tryz.prog 11 #[.string ⟨#[45]⟩,.agg cs.toArray,.agg ds.toArray] w (ResR B N (minusV a b) w):=by
 have hq:=And.intro (And.intro (And.intro (And.intro hB hN) hN2) (And.intro ca cb)) (And.intro (And.intro fa fb) (And.intro hs (And.intro hl hf)));have hq2:=And.intro hts (And.intro hT hm);clear hq hq2
 obtain ⟨ya,la,va,yc,lc,vc,hh⟩:=hv.has
 obtain ⟨yb,lb,vb,yd,ld,vd,hg⟩:=hu.has
 have HV:=Hd hv
 have HU:=Hd hu
 have HH:=Hd hh
 have HG:=Hd hg
 have hz1:=Hd (show (Tryz.prog.info? 30).map (·.size)=some cs.length by rw [hv.len];exact sizeV)
 have hz2:=Hd (show (Tryz.prog.info? 30).map (·.size)=some ds.length by rw [hu.len];exact sizeV)
 have DA:=Hd (okC_of 48 a 0 ca)
 have DB:=Hd (okC_of 48 b 0 cb)
 have CA:=Hd ca
 have CB:=Hd cb
 have FA:=Hd fa
 have FB:=Hd fb
 have HTB:=Hd hT
 have HMZ:=Hd hm
 clear hT hm
 have hT:=Hd (tval w cs ds [.int .i64 0,.bool false,.bool false,.string ⟨#[]⟩,.int .i64 0,.int .i64 0,.int .i64 0,.int .i64 0,.int .i64 0,.string ⟨#[]⟩,.slice none 0 0,.slice none 0 0,.slice none 0 0])
 have ek:=hT.out.one.cell hh.kind
 have fk:=hT.out.two.cell hg.kind
 obtain ⟨m0,hm0⟩:=zero_cell HMZ.out hT.out.below
 have hcon:=Tryz.strings_Contains ⟨#[43,45,42,47,37]⟩ ⟨#[45]⟩ m0 _ (by decide) hm0
 rw [show Lib.contains (⟨#[43,45,42,47,37]⟩:ByteArray).data.toList (⟨#[45]⟩:ByteArray).data.toList=true by decide] at hcon
 have HCON:=Hd hcon
 clear hcon hm0
 have HQ:=Hd (show minusV a b=resD (lisD (withoutL 47 a.list b.list)) by unfold minusV;rw [if_neg (by omega),if_pos ⟨ha,hb⟩])
 rw [ha] at ek
 rw [hb] at fk
 clear ha hb
 have elist:=hT.out.one.cell HH.out.list
 have flist:=hT.out.two.cell HG.out.list
 clear hv hu hh hg ca cb fa fb
 go_enter Tryz.func11,Tryz.ntmps11
 go_wp2_with fail
 refine HCON.out.mono ?_
 rintro e wC ⟨rfl,rfl⟩
 clear HCON
 go_wp2_with fail
 refine (without_p 47 a.list b.list la lb lc ld _ B B N (by omega) DA.out.2.2.2.2.2.1 DB.out.2.2.2.2.2.1 FA.out.1 hN (by omega) (by omega) (Nat.le_trans hB hT.out.below.size) (Nat.le_trans hB hT.out.below.size) (HH.out.atList.below (hT.out.below.mono hB)) (HG.out.atList.below (hT.out.below.mono hB))).mono ?_
 rintro e wE ⟨xs,rfl,hsol,hb⟩
 obtain ⟨r,hr⟩:∃ r,r=resD (lisD (withoutL 47 a.list b.list)):=⟨_,rfl⟩
 rw [← hr] at hsol ⊢
 have HQ:=Hd (show minusV a b=r by rw [HQ.out,hr])
 have hlen:=hsol.here.len
 have AT:=Hd hsol.here
 have S1:=Hd hsol
 have hT1:=Hd (hT.out.later hb)
 clear hsol hb hr
 obtain ⟨rv,rk⟩:=r
 go_wp2_with ((with_reducible show wpList _ _ _ (⟨none,.store 30 (.tmp 6) _,_,_,_,_⟩::_) _ _);refine wpList_store_row rfl 30 _ _ rfl (w.heap.size+1+1) xs.toArray rfl rfl 30 zeroV hT1.out.res (row_size hlen) (row_zero hlen) (row_ones AT.out) ?_)
 refine bodyPost_ret (results_cell_row2 rfl _ _ (w.heap.size+1+1) 30 _ (0,0) _ rfl (hT1.out.put xs).res Tryz.underlying30 rfl (row_size hlen)) rfl ?_
 rw [HQ.out]
 exact res_intoB hB hT.out hT1.out S1.out
end Go.Proofs.YtmjfggadehkbjaaGreatDoor

/- The program's Arith, whole. -/
namespace Go.Proofs.YtmjfggadehkbjaaGreatDoor
open Go.RowKit Stb
theorem op_lit {op:ByteArray} {c:UInt8} (h:op.toList=[c]):op=⟨#[c]⟩:=by
 rw [ByteArray.toList_eq] at h
 obtain ⟨d⟩:=op
 congr 1
 apply Array.ext'
 exact h
def isOp (op:ByteArray):Bool:=(op.toList==[43]) || ((op.toList==[45]) || ((op.toList==[47]) || ((op.toList==[42]) || (op.toList==[37]))))
def arithV (op:ByteArray) (a b:ValD):ValD×Int:=if op.toList=[43] then plusV a b else if op.toList=[45] then minusV a b else if op.toList=[47] then quoV a b else if op.toList=[42] then timesV a b else if op.toList=[37] then remV a b else (zeroD,1)
theorem one_cont {op:ByteArray} (h:isOp op=false) (h1:op.size=1):Lib.contains (⟨#[43,45,42,47,37]⟩:ByteArray).data.toList op.data.toList=false:=by
 obtain ⟨x,hx⟩:∃ x,op.data.toList=[x]:=List.length_eq_one_iff.1 (by rw [Array.length_toList];exact h1)
 unfold isOp at h
 rw [ByteArray.toList_eq,hx] at h
 rw [hx]
 simp only [Bool.or_eq_false_iff,beq_eq_false_iff_ne,ne_eq,List.cons.injEq,and_true] at h
 obtain ⟨g1,g2,g3,g4,g5⟩:=h
 show Lib.contains [43,45,42,47,37] [x]=false
 simp [Lib.contains,Lib.index,List.isPrefixOf,g1,g2,g3,g4,g5]
set_option maxRecDepth 100000 in
set_option maxHeartbeats 3200000 in
theorem ar_no0_p (op:ByteArray) (a b:ValD) (w:World) (B N:Nat) (cs ds:List Value) (hB:B≤w.heap.size) (hN:N≤4294967296) (hN2:120≤N) (ca:chkD a=0) (cb:chkD b=0) (fa:fitsV 60 a) (fb:fitsV 60 b) (hs:a.text.size+b.text.size≤N) (hl:a.list.length+b.list.length≤N) (hf:a.fields.length+b.fields.length≤N) (hts:a.text.size+1≤N) (hT:Lib.Utf8Tabs 1 2 w) (hm:∃ m:Int,w.cell? ⟨0,0,none⟩=some (.int .i64 m)) (hv:ValD.At w B N a cs) (hu:ValD.At w B N b ds) (ho:op.toList=[]) :
 Calls Tryz.prog 11 #[.string op,.agg cs.toArray,.agg ds.toArray] w (ResR B N ((zeroD,1)) w):=by
 have hq:=And.intro (And.intro (And.intro (And.intro hB hN) hN2) (And.intro ca cb)) (And.intro (And.intro fa fb) (And.intro hs (And.intro hl hf)));have hq2:=And.intro hts (And.intro hT hm);clear hq hq2
 obtain ⟨ya,la,va,yc,lc,vc,hh⟩:=hv.has
 obtain ⟨yb,lb,vb,yd,ld,vd,hg⟩:=hu.has
 have HV:=Hd hv
 have HU:=Hd hu
 have HH:=Hd hh
 have HG:=Hd hg
 have hz1:=Hd (show (Tryz.prog.info? 30).map (·.size)=some cs.length by rw [hv.len];exact sizeV)
 have hz2:=Hd (show (Tryz.prog.info? 30).map (·.size)=some ds.length by rw [hu.len];exact sizeV)
 have DA:=Hd (okC_of 48 a 0 ca)
 have DB:=Hd (okC_of 48 b 0 cb)
 have CA:=Hd ca
 have CB:=Hd cb
 have FA:=Hd fa
 have FB:=Hd fb
 have HTB:=Hd hT
 have HMZ:=Hd hm
 clear hT hm
 have hT:=Hd (tval w cs ds [.int .i64 0,.bool false,.bool false,.string ⟨#[]⟩,.int .i64 0,.int .i64 0,.int .i64 0,.int .i64 0,.int .i64 0,.string ⟨#[]⟩,.slice none 0 0,.slice none 0 0,.slice none 0 0])
 have ek:=hT.out.one.cell hh.kind
 have fk:=hT.out.two.cell hg.kind
 have h0:(op.toList==[])=true:=by rw [ho];rfl
 clear hv hu hh hg ca cb fa fb
 go_enter Tryz.func11,Tryz.ntmps11
 go_wp2_with ((with_reducible show wpList _ _ _ (⟨none,.store 30 (.tmp 6) _,_,_,_,_⟩::_) _ _);refine wpList_store_row rfl 30 _ _ rfl (w.heap.size+1+1) zeroV rfl rfl 30 zeroV hT.out.res (sizeZ) (rfl) (oneZ) ?_)
 refine bodyPost_ret (results_cell_row2 rfl _ _ (w.heap.size+1+1) 30 _ (0,0) _ rfl (hT.out.put zeroV.toList).res Tryz.underlying30 rfl sizeZ) rfl ?_
 exact zero_intoB hT.out (rfl)
set_option maxRecDepth 100000 in
set_option maxHeartbeats 3200000 in
theorem ar_no1_p (op:ByteArray) (a b:ValD) (w:World) (B N:Nat) (cs ds:List Value) (hB:B≤w.heap.size) (hN:N≤4294967296) (hN2:120≤N) (ca:chkD a=0) (cb:chkD b=0) (fa:fitsV 60 a) (fb:fitsV 60 b) (hs:a.text.size+b.text.size≤N) (hl:a.list.length+b.list.length≤N) (hf:a.fields.length+b.fields.length≤N) (hts:a.text.size+1≤N) (hT:Lib.Utf8Tabs 1 2 w) (hm:∃ m:Int,w.cell? ⟨0,0,none⟩=some (.int .i64 m)) (hv:ValD.At w B N a cs) (hu:ValD.At w B N b ds) (ho:¬ op.toList=[]) (hc:Lib.contains (⟨#[43,45,42,47,37]⟩:ByteArray).data.toList op.data.toList=false) :
 Calls Tryz.prog 11 #[.string op,.agg cs.toArray,.agg ds.toArray] w (ResR B N ((zeroD,1)) w):=by
 have hq:=And.intro (And.intro (And.intro (And.intro hB hN) hN2) (And.intro ca cb)) (And.intro (And.intro fa fb) (And.intro hs (And.intro hl hf)));have hq2:=And.intro hts (And.intro hT hm);clear hq hq2
 obtain ⟨ya,la,va,yc,lc,vc,hh⟩:=hv.has
 obtain ⟨yb,lb,vb,yd,ld,vd,hg⟩:=hu.has
 have HV:=Hd hv
 have HU:=Hd hu
 have HH:=Hd hh
 have HG:=Hd hg
 have hz1:=Hd (show (Tryz.prog.info? 30).map (·.size)=some cs.length by rw [hv.len];exact sizeV)
 have hz2:=Hd (show (Tryz.prog.info? 30).map (·.size)=some ds.length by rw [hu.len];exact sizeV)
 have DA:=Hd (okC_of 48 a 0 ca)
 have DB:=Hd (okC_of 48 b 0 cb)
 have CA:=Hd ca
 have CB:=Hd cb
 have FA:=Hd fa
 have FB:=Hd fb
 have HTB:=Hd hT
 have HMZ:=Hd hm
 clear hT hm
 have hT:=Hd (tval w cs ds [.int .i64 0,.bool false,.bool false,.string ⟨#[]⟩,.int .i64 0,.int .i64 0,.int .i64 0,.int .i64 0,.int .i64 0,.string ⟨#[]⟩,.slice none 0 0,.slice none 0 0,.slice none 0 0])
 have ek:=hT.out.one.cell hh.kind
 have fk:=hT.out.two.cell hg.kind
 have h0:(op.toList==[])=false:=by simpa using ho
 obtain ⟨m0,hm0⟩:=zero_cell HMZ.out hT.out.below
 have hcon:=Tryz.strings_Contains ⟨#[43,45,42,47,37]⟩ op m0 _ (by decide) hm0
 rw [hc] at hcon
 have HCON:=Hd hcon
 clear hcon hm0 hc
 clear hv hu hh hg ca cb fa fb
 go_enter Tryz.func11,Tryz.ntmps11
 go_wp2_with fail
 refine HCON.out.mono ?_
 rintro e wC ⟨rfl,rfl⟩
 clear HCON
 go_wp2_with ((with_reducible show wpList _ _ _ (⟨none,.store 30 (.tmp 6) _,_,_,_,_⟩::_) _ _);refine wpList_store_row rfl 30 _ _ rfl (w.heap.size+1+1) zeroV rfl rfl 30 zeroV hT.out.res (sizeZ) (rfl) (oneZ) ?_)
 refine bodyPost_ret (results_cell_row2 rfl _ _ (w.heap.size+1+1) 30 _ (0,0) _ rfl (hT.out.put zeroV.toList).res Tryz.underlying30 rfl sizeZ) rfl ?_
 exact zero_intoB hT.out (rfl)
set_option maxRecDepth 100000 in
set_option maxHeartbeats 3200000 in
theorem ar_no2_p (op:ByteArray) (a b:ValD) (w:World) (B N:Nat) (cs ds:List Value) (hB:B≤w.heap.size) (hN:N≤4294967296) (hN2:120≤N) (ca:chkD a=0) (cb:chkD b=0) (fa:fitsV 60 a) (fb:fitsV 60 b) (hs:a.text.size+b.text.size≤N) (hl:a.list.length+b.list.length≤N) (hf:a.fields.length+b.fields.length≤N) (hts:a.text.size+1≤N) (hT:Lib.Utf8Tabs 1 2 w) (hm:∃ m:Int,w.cell? ⟨0,0,none⟩=some (.int .i64 m)) (hv:ValD.At w B N a cs) (hu:ValD.At w B N b ds) (ho:¬ op.toList=[]) (hc:Lib.contains (⟨#[43,45,42,47,37]⟩:ByteArray).data.toList op.data.toList=true) (h1:op.size≠1) :
 Calls Tryz.prog 11 #[.string op,.agg cs.toArray,.agg ds.toArray] w (ResR B N ((zeroD,1)) w):=by
 have hq:=And.intro (And.intro (And.intro (And.intro hB hN) hN2) (And.intro ca cb)) (And.intro (And.intro fa fb) (And.intro hs (And.intro hl hf)));have hq2:=And.intro hts (And.intro hT hm);clear hq hq2
 obtain ⟨ya,la,va,yc,lc,vc,hh⟩:=hv.has
 obtain ⟨yb,lb,vb,yd,ld,vd,hg⟩:=hu.has
 have HV:=Hd hv
 have HU:=Hd hu
 have HH:=Hd hh
 have HG:=Hd hg
 have hz1:=Hd (show (Tryz.prog.info? 30).map (·.size)=some cs.length by rw [hv.len];exact sizeV)
 have hz2:=Hd (show (Tryz.prog.info? 30).map (·.size)=some ds.length by rw [hu.len];exact sizeV)
 have DA:=Hd (okC_of 48 a 0 ca)
 have DB:=Hd (okC_of 48 b 0 cb)
 have CA:=Hd ca
 have CB:=Hd cb
 have FA:=Hd fa
 have FB:=Hd fb
 have HTB:=Hd hT
 have HMZ:=Hd hm
 clear hT hm
 have hT:=Hd (tval w cs ds [.int .i64 0,.bool false,.bool false,.string ⟨#[]⟩,.int .i64 0,.int .i64 0,.int .i64 0,.int .i64 0,.int .i64 0,.string ⟨#[]⟩,.slice none 0 0,.slice none 0 0,.slice none 0 0])
 have ek:=hT.out.one.cell hh.kind
 have fk:=hT.out.two.cell hg.kind
 have h0:(op.toList==[])=false:=by simpa using ho
 have h9:((op.size:Int) != 1)=true:=by simp;omega
 obtain ⟨m0,hm0⟩:=zero_cell HMZ.out hT.out.below
 have hcon:=Tryz.strings_Contains ⟨#[43,45,42,47,37]⟩ op m0 _ (by decide) hm0
 rw [hc] at hcon
 have HCON:=Hd hcon
 clear hcon hm0 hc
 clear hv hu hh hg ca cb fa fb
 go_enter Tryz.func11,Tryz.ntmps11
 go_wp2_with fail
 refine HCON.out.mono ?_
 rintro e wC ⟨rfl,rfl⟩
 clear HCON
 go_wp2_with ((with_reducible show wpList _ _ _ (⟨none,.store 30 (.tmp 6) _,_,_,_,_⟩::_) _ _);refine wpList_store_row rfl 30 _ _ rfl (w.heap.size+1+1) zeroV rfl rfl 30 zeroV hT.out.res (sizeZ) (rfl) (oneZ) ?_)
 refine bodyPost_ret (results_cell_row2 rfl _ _ (w.heap.size+1+1) 30 _ (0,0) _ rfl (hT.out.put zeroV.toList).res Tryz.underlying30 rfl sizeZ) rfl ?_
 exact zero_intoB hT.out (rfl)
theorem arith_p (op:ByteArray) (a b:ValD) (w:World) (B N:Nat) (cs ds:List Value) (hB:B≤w.heap.size) (hN:N≤4294967296) (hN2:120≤N) (ca:chkD a=0) (cb:chkD b=0) (fa:fitsV 60 a) (fb:fitsV 60 b) (hs:a.text.size+b.text.size≤N) (hl:a.list.length+b.list.length≤N) (hf:a.fields.length+b.fields.length≤N) (hts:a.text.size+1≤N) (hT:Lib.Utf8Tabs 1 2 w) (hm:∃ m:Int,w.cell? ⟨0,0,none⟩=some (.int .i64 m)) (hv:ValD.At w B N a cs) (hu:ValD.At w B N b ds) :
 Calls Tryz.prog 11 #[.string op,.agg cs.toArray,.agg ds.toArray] w (ResR B N (arithV op a b) w):=by
 have hk:=kind_range ca
 unfold arithV
 by_cases o1:op.toList=[43]
 ·rw [if_pos o1,op_lit o1];exact ar_pl_p a b w B N cs ds hB hN hN2 ca cb fa fb hs hl hf hts hT hm hv hu
 rw [if_neg o1]
 by_cases o2:op.toList=[45]
 ·rw [if_pos o2,op_lit o2]
  by_cases hne:a.kind=b.kind
  ·rcases (show a.kind=0∨a.kind=1∨a.kind=2∨a.kind=3∨a.kind=4∨a.kind=5∨a.kind=6∨a.kind=7 by omega) with h | h | h | h | h | h | h | h
   ·exact ar_mi_0_p a b w B N cs ds hB hN hN2 ca cb fa fb hs hl hf hts hT hm hv hu h (by omega)
   ·exact ar_mi_1_p a b w B N cs ds hB hN hN2 ca cb fa fb hs hl hf hts hT hm hv hu h (by omega)
   ·exact ar_mi_n_p a b w B N cs ds hB hN hN2 ca cb fa fb hs hl hf hts hT hm hv hu h (by omega)
   ·exact ar_mi_3_p a b w B N cs ds hB hN hN2 ca cb fa fb hs hl hf hts hT hm hv hu h (by omega)
   ·exact ar_mi_4_p a b w B N cs ds hB hN hN2 ca cb fa fb hs hl hf hts hT hm hv hu h (by omega)
   ·exact ar_mi_5_p a b w B N cs ds hB hN hN2 ca cb fa fb hs hl hf hts hT hm hv hu h (by omega)
   ·exact ar_mi_l_p a b w B N cs ds hB hN hN2 ca cb fa fb hs hl hf hts hT hm hv hu h (by omega)
   ·exact ar_mi_7_p a b w B N cs ds hB hN hN2 ca cb fa fb hs hl hf hts hT hm hv hu h (by omega)
  ·exact ar_mi_x_p a b w B N cs ds hB hN hN2 ca cb fa fb hs hl hf hts hT hm hv hu hne
 rw [if_neg o2]
 by_cases o3:op.toList=[47]
 ·rw [if_pos o3,op_lit o3]
  by_cases hne:a.kind=b.kind
  ·rcases (show a.kind=0∨a.kind=1∨a.kind=2∨a.kind=3∨a.kind=4∨a.kind=5∨a.kind=6∨a.kind=7 by omega) with h | h | h | h | h | h | h | h
   ·exact ar_qu_0_p a b w B N cs ds hB hN hN2 ca cb fa fb hs hl hf hts hT hm hv hu h (by omega)
   ·exact ar_qu_1_p a b w B N cs ds hB hN hN2 ca cb fa fb hs hl hf hts hT hm hv hu h (by omega)
   ·exact ar_qu_n_p a b w B N cs ds hB hN hN2 ca cb fa fb hs hl hf hts hT hm hv hu h (by omega)
   ·exact ar_qu_3_p a b w B N cs ds hB hN hN2 ca cb fa fb hs hl hf hts hT hm hv hu h (by omega)
   ·exact ar_qu_t_p a b w B N cs ds hB hN hN2 ca cb fa fb hs hl hf hts hT hm hv hu h (by omega)
   ·exact ar_qu_5_p a b w B N cs ds hB hN hN2 ca cb fa fb hs hl hf hts hT hm hv hu h (by omega)
   ·exact ar_qu_6_p a b w B N cs ds hB hN hN2 ca cb fa fb hs hl hf hts hT hm hv hu h (by omega)
   ·exact ar_qu_7_p a b w B N cs ds hB hN hN2 ca cb fa fb hs hl hf hts hT hm hv hu h (by omega)
  ·exact ar_qu_x_p a b w B N cs ds hB hN hN2 ca cb fa fb hs hl hf hts hT hm hv hu hne
 rw [if_neg o3]
 by_cases o4:op.toList=[42]
 ·rw [if_pos o4,op_lit o4]
  by_cases hne:a.kind=b.kind
  ·rcases (show a.kind=0∨a.kind=1∨a.kind=2∨a.kind=3∨a.kind=4∨a.kind=5∨a.kind=6∨a.kind=7 by omega) with h | h | h | h | h | h | h | h
   ·exact ar_ti_0_p a b w B N cs ds hB hN hN2 ca cb fa fb hs hl hf hts hT hm hv hu h (by omega)
   ·exact ar_ti_1_p a b w B N cs ds hB hN hN2 ca cb fa fb hs hl hf hts hT hm hv hu h (by omega)
   ·exact ar_ti_n_p a b w B N cs ds hB hN hN2 ca cb fa fb hs hl hf hts hT hm hv hu h (by omega)
   ·exact ar_ti_3_p a b w B N cs ds hB hN hN2 ca cb fa fb hs hl hf hts hT hm hv hu h (by omega)
   ·exact ar_ti_4_p a b w B N cs ds hB hN hN2 ca cb fa fb hs hl hf hts hT hm hv hu h (by omega)
   ·exact ar_ti_5_p a b w B N cs ds hB hN hN2 ca cb fa fb hs hl hf hts hT hm hv hu h (by omega)
   ·exact ar_ti_6_p a b w B N cs ds hB hN hN2 ca cb fa fb hs hl hf hts hT hm hv hu h (by omega)
   ·exact ar_ti_7_p a b w B N cs ds hB hN hN2 ca cb fa fb hs hl hf hts hT hm hv hu h (by omega)
  ·exact ar_ti_x_p a b w B N cs ds hB hN hN2 ca cb fa fb hs hl hf hts hT hm hv hu hne
 rw [if_neg o4]
 by_cases o5:op.toList=[37]
 ·rw [if_pos o5,op_lit o5]
  by_cases hne:a.kind=b.kind
  ·rcases (show a.kind=0∨a.kind=1∨a.kind=2∨a.kind=3∨a.kind=4∨a.kind=5∨a.kind=6∨a.kind=7 by omega) with h | h | h | h | h | h | h | h
   ·exact ar_re_0_p a b w B N cs ds hB hN hN2 ca cb fa fb hs hl hf hts hT hm hv hu h (by omega)
   ·exact ar_re_1_p a b w B N cs ds hB hN hN2 ca cb fa fb hs hl hf hts hT hm hv hu h (by omega)
   ·cases hx:decide (0≤a.num.exp) with
    | false=>exact ar_re_n0_p a b w B N cs ds hB hN hN2 ca cb fa fb hs hl hf hts hT hm hv hu h (by omega) hx trivial
    | true =>
      cases hy:decide (0≤b.num.exp) with
      | false=>exact ar_re_n1_p a b w B N cs ds hB hN hN2 ca cb fa fb hs hl hf hts hT hm hv hu h (by omega) hx hy
      | true=>exact ar_re_n2_p a b w B N cs ds hB hN hN2 ca cb fa fb hs hl hf hts hT hm hv hu h (by omega) hx hy
   ·exact ar_re_3_p a b w B N cs ds hB hN hN2 ca cb fa fb hs hl hf hts hT hm hv hu h (by omega)
   ·exact ar_re_4_p a b w B N cs ds hB hN hN2 ca cb fa fb hs hl hf hts hT hm hv hu h (by omega)
   ·exact ar_re_5_p a b w B N cs ds hB hN hN2 ca cb fa fb hs hl hf hts hT hm hv hu h (by omega)
   ·exact ar_re_6_p a b w B N cs ds hB hN hN2 ca cb fa fb hs hl hf hts hT hm hv hu h (by omega)
   ·exact ar_re_7_p a b w B N cs ds hB hN hN2 ca cb fa fb hs hl hf hts hT hm hv hu h (by omega)
  ·exact ar_re_x_p a b w B N cs ds hB hN hN2 ca cb fa fb hs hl hf hts hT hm hv hu hne
 rw [if_neg o5]
 have hop:isOp op=false:=by unfold isOp;simp [o1,o2,o3,o4,o5]
 by_cases h0:op.toList=[]
 ·exact ar_no0_p op a b w B N cs ds hB hN hN2 ca cb fa fb hs hl hf hts hT hm hv hu h0
 cases hc:Lib.contains (⟨#[43,45,42,47,37]⟩:ByteArray).data.toList op.data.toList with
 | false=>exact ar_no1_p op a b w B N cs ds hB hN hN2 ca cb fa fb hs hl hf hts hT hm hv hu h0 hc
 | true=>exact ar_no2_p op a b w B N cs ds hB hN hN2 ca cb fa fb hs hl hf hts hT hm hv hu h0 hc (fun h1=>by rw [one_cont hop h1] at hc;cases hc)
end Go.Proofs.YtmjfggadehkbjaaGreatDoor
