/- The program's Arith but of differences. -/
import Derived.Test.YtagkjofpncpcpaaGreatDoorProg
import Derived.Test.YtagkjofpncpcpaaGreatDoorGA
import Derived.Test.YtagkjofpncpcpaaGreatDoorGB
import Derived.Test.YtagkjofpncpcpaaGreatDoorShelf
import Derived.Test.YtagkjofpncpcpaaGreatDoorGC
import Derived.Test.YtagkjofpncpcpaaGreatDoorGD
import Derived.Test.YtagkjofpncpcpaaGreatDoorGF
import Derived.Test.YtagkjofpncpcpaaGreatDoorChkq
import Derived.Test.YtagkjofpncpcpaaGreatDoorXA
import Derived.Test.YtagkjofpncpcpaaGreatDoorXD
import Derived.Test.YtagkjofpncpcpaaGreatDoorXK
import Derived.Test.YtagkjofpncpcpaaGreatDoorAE
import Derived.Test.YtagkjofpncpcpaaGreatDoorAH
import Derived.Test.YtagkjofpncpcpaaGreatDoorAI
import Derived.Test.YtagkjofpncpcpaaGreatDoorAL
namespace Go.Proofs.YtagkjofpncpcpaaGreatDoor
namespace Stb
end Stb
open Go.RowKit Stb
set_option maxRecDepth 100000 in
set_option maxHeartbeats 3200000 in
theorem ar_qu_t_p (a b:ValD) (w:World) (B N:Nat) (cs ds:List Value) (hB:B≤w.heap.size) (hN:N≤4294967296) (hN2:120≤N) (ca:chkD a=0) (cb:chkD b=0) (fa:fitsV 60 a) (fb:fitsV 60 b) (hs:a.text.size+b.text.size≤N) (hl:a.list.length+b.list.length≤N) (hf:a.fields.length+b.fields.length≤N) (hts:a.text.size+1≤N) (hT:Lib.Utf8Tabs 3 4 w) (hm:∃ m:Int,w.cell? ⟨1,0,none⟩=some (.int .i64 m)) (hv:ValD.At w B N a cs) (hu:ValD.At w B N b ds) (ha:a.kind=4) (hb:b.kind=4) :
 Calls Tryz.prog 12 #[.string ⟨#[47]⟩,.agg cs.toArray,.agg ds.toArray] w (ResR B N (quoV a b) w):=by
 have hq:=And.intro (And.intro (And.intro (And.intro hB hN) hN2) (And.intro ca cb)) (And.intro (And.intro fa fb) (And.intro hs (And.intro hl hf)));have hq2:=And.intro hts (And.intro hT hm);clear hq hq2
 obtain ⟨ya,la,va,yc,lc,vc,hh⟩:=hv.has
 obtain ⟨yb,lb,vb,yd,ld,vd,hg⟩:=hu.has
 have HV:=Hd hv
 have HU:=Hd hu
 have HH:=Hd hh
 have HG:=Hd hg
 have hz1:=Hd (show (Tryz.prog.info? 30).map (·.size)=some cs.length by rw [hv.len];exact sizeV)
 have hz2:=Hd (show (Tryz.prog.info? 30).map (·.size)=some ds.length by rw [hu.len];exact sizeV)
 have DA:=Hd (okC_of 48 a 0 ca)
 have DB:=Hd (okC_of 48 b 0 cb)
 have CA:=Hd ca
 have CB:=Hd cb
 have FA:=Hd fa
 have FB:=Hd fb
 have HTB:=Hd hT
 have HMZ:=Hd hm
 clear hT hm
 have hT:=Hd (tval w cs ds [.int .i64 0,.bool false,.bool false,.string ⟨#[]⟩,.int .i64 0,.int .i64 0,.int .i64 0,.int .i64 0,.int .i64 0,.string ⟨#[]⟩,.slice none 0 0,.slice none 0 0,.slice none 0 0])
 have ek:=hT.out.one.cell hh.kind
 have fk:=hT.out.two.cell hg.kind
 obtain ⟨m0,hm0⟩:=zero_cell HMZ.out hT.out.below
 have hcon:=Tryz.strings_Contains ⟨#[43,45,42,47,37]⟩ ⟨#[47]⟩ m0 _ (by decide) hm0
 rw [show Lib.contains (⟨#[43,45,42,47,37]⟩:ByteArray).data.toList (⟨#[47]⟩:ByteArray).data.toList=true by decide] at hcon
 have HCON:=Hd hcon
 clear hcon hm0
 have HQ:=Hd (show quoV a b=resD (lisD ((quoL a.text b.text).map textD)) by unfold quoV;rw [if_neg (by omega),if_pos ⟨ha,hb⟩])
 have HOA:=Hd (chkD_own ca)
 have HOB:=Hd (chkD_own cb)
 rw [ha] at ek
 rw [hb] at fk
 clear ha hb
 have etext:=hT.out.one.cell HH.out.text
 have ftext:=hT.out.two.cell HG.out.text
 clear hv hu hh hg ca cb fa fb
 go_enter Tryz.func12,Tryz.ntmps12
 go_wp2_with fail
 refine HCON.out.mono ?_
 rintro e wC ⟨rfl,rfl⟩
 clear HCON
 go_wp2_with fail
 refine (split_p a.text b.text _ B N hN hts HOA.out.2.2.1 HOB.out.2.2.1 HOA.out.2.1 (tabs_below HTB.out hT.out.below) (zero_cell HMZ.out hT.out.below) (Nat.le_trans hB hT.out.below.size)).mono ?_
 rintro e wE ⟨xs,rfl,hsol,hb⟩
 obtain ⟨r,hr⟩:∃ r,r=resD (lisD ((quoL a.text b.text).map textD)):=⟨_,rfl⟩
 rw [← hr] at hsol ⊢
 have HQ:=Hd (show quoV a b=r by rw [HQ.out,hr])
 have hlen:=hsol.here.len
 have AT:=Hd hsol.here
 have S1:=Hd hsol
 have hT1:=Hd (hT.out.later hb)
 clear hsol hb hr
 obtain ⟨rv,rk⟩:=r
 go_wp2_with ((with_reducible show wpList _ _ _ (⟨none,.store 30 (.tmp 6) _,_,_,_,_⟩::_) _ _);refine wpList_store_row rfl 30 _ _ rfl (w.heap.size+1+1) xs.toArray rfl rfl 30 zeroV hT1.out.res (row_size hlen) (row_zero hlen) (row_ones AT.out) ?_)
 refine bodyPost_ret (results_cell_row2 rfl _ _ (w.heap.size+1+1) 30 _ (0,0) _ rfl (hT1.out.put xs).res Tryz.underlying30 rfl (row_size hlen)) rfl ?_
 rw [HQ.out]
 exact res_intoB hB hT.out hT1.out S1.out
end Go.Proofs.YtagkjofpncpcpaaGreatDoor
