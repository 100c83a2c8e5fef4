/- Sums of values, their results where only a part of the store may change (ResR). -/
import Derived.Test.YtagkjofpncpcpaaGreatDoorProg
import Derived.Test.YtagkjofpncpcpaaGreatDoorGA
import Derived.Test.YtagkjofpncpcpaaGreatDoorGB
import Derived.Test.YtagkjofpncpcpaaGreatDoorGC
import Derived.Test.YtagkjofpncpcpaaGreatDoorGD
import Derived.Test.YtagkjofpncpcpaaGreatDoorGF
import Derived.Test.YtagkjofpncpcpaaGreatDoorChkq
import Derived.Test.YtagkjofpncpcpaaGreatDoorXA
import Derived.Test.YtagkjofpncpcpaaGreatDoorXD
import Derived.Test.YtagkjofpncpcpaaGreatDoorXK
import Derived.Test.YtagkjofpncpcpaaGreatDoorAE
import Derived.Maps.AppendAt
namespace Go.Proofs.YtagkjofpncpcpaaGreatDoor
namespace Stb
end Stb
open Go.RowKit Stb
theorem res_intoB {w W W1:World} {cs ds zs xs:List Value} {B N:Nat} {r:ValD×Int} (hB:B≤w.heap.size) (hT:Tval w W cs ds zs) (hT1:Tval w W1 cs ds zs) (hsol:Solid B W.heap.size W1 (fun c=>ValD.At c c.heap.size N r.1 xs)) :
 ResR B N r w (.returned (.tuple #[.agg xs.toArray,.int .i64 r.2])) (W1.setRow (w.heap.size+1+1) xs.toArray) :=
 ⟨xs,rfl,fun _ hd=>hsol _ ((Apart.of_setRow0 xs.toArray (by omega) (by have:=hT.size;omega)).after hd (by have:=hT.size;omega)),below_setRow hT1.below (by omega) _⟩
set_option maxRecDepth 100000 in
set_option maxHeartbeats 3200000 in
theorem plusbt_p (a b:ValD) (w:World) (B N:Nat) (cs ds:List Value) (hB:B≤w.heap.size) (hN:N≤4294967296) (hN2:120≤N) (ca:chkD a=0) (cb:chkD b=0) (fa:fitsV 60 a) (fb:fitsV 60 b) (hs:a.text.size+b.text.size≤N) (hl:a.list.length+b.list.length≤N) (hf:a.fields.length+b.fields.length≤N) (hv:ValD.At w B N a cs) (hu:ValD.At w B N b ds) (ha:a.kind=4) (hb:b.kind=4) :
 Calls Tryz.prog 35 #[.agg cs.toArray,.agg ds.toArray] w (ResR B N (plusV a b) w):=by
 have hq:=And.intro (And.intro (And.intro (And.intro hB hN) hN2) (And.intro ca cb)) (And.intro (And.intro fa fb) (And.intro hs (And.intro hl hf)));clear hq
 obtain ⟨ya,la,va,yc,lc,vc,hh⟩:=hv.has
 obtain ⟨yb,lb,vb,yd,ld,vd,hg⟩:=hu.has
 have HV:=Hd hv
 have HU:=Hd hu
 have HH:=Hd hh
 have HG:=Hd hg
 have hz1:=Hd (show (Tryz.prog.info? 30).map (·.size)=some cs.length by rw [hv.len];exact sizeV)
 have hz2:=Hd (show (Tryz.prog.info? 30).map (·.size)=some ds.length by rw [hu.len];exact sizeV)
 have DA:=Hd (okC_of 48 a 0 ca)
 have DB:=Hd (okC_of 48 b 0 cb)
 have CA:=Hd ca
 have CB:=Hd cb
 have FA:=Hd fa
 have FB:=Hd fb
 have hT:=Hd (tval w cs ds [.int .i64 0,.bool false,.bool false,.string ⟨#[]⟩,.int .i64 0,.int .i64 0,.int .i64 0,.int .i64 0,.int .i64 0,.string ⟨#[]⟩,.slice none 0 0,.slice none 0 0,.slice none 0 0])
 have ek:=hT.out.one.cell hh.kind
 have fk:=hT.out.two.cell hg.kind
 have HQ:=Hd (show plusV a b=resD (textD (a.text++b.text)) by unfold plusV;rw [if_neg (by omega),if_neg (by omega),if_neg (by omega),if_neg (by omega),if_pos ha])
 rw [ha] at ek
 rw [hb] at fk
 have hts:(a.text++b.text).size≤N:=by rw [ByteArray.size_append];exact hs
 have HTS:=Hd hts
 clear ha hb hts
 have etext:=hT.out.one.cell HH.out.text
 have ftext:=hT.out.two.cell HG.out.text
 clear hv hu hh hg ca cb fa fb
 go_enter Tryz.func35,Tryz.ntmps35
 go_wp2_with fail
 refine (text_prog (a.text++b.text) _).mono ?_
 rintro e wC ⟨rfl,hb⟩
 have hT2:=Hd (hT.out.later hb)
 clear hb hT
 have hT:=hT2
 clear hT2
 go_wp2_with fail
 refine (valid_prog 1 (textD (a.text++b.text)) _ B N (textR (a.text++b.text)) (by omega) ⟨fun x h=>(by cases h),fun f h=>(by cases h)⟩ hN (Nat.le_trans hB hT.out.below.size) (textD_at HTS.out)).mono ?_
 rintro e wE ⟨xs,rfl,hsol,hb⟩
 obtain ⟨r,hr⟩:∃ r,r=resD (textD (a.text++b.text)):=⟨_,rfl⟩
 rw [← hr] at hsol ⊢
 have HQ:=Hd (show plusV a b=r by rw [HQ.out,hr])
 have hlen:=hsol.here.len
 have AT:=Hd hsol.here
 have S1:=Hd hsol
 have hT1:=Hd (hT.out.later hb)
 clear hsol hb hr
 obtain ⟨rv,rk⟩:=r
 go_wp2_with ((with_reducible show wpList _ _ _ (⟨none,.store 30 (.tmp 4) _,_,_,_,_⟩::_) _ _);refine wpList_store_row rfl 30 _ _ rfl (w.heap.size+1+1) xs.toArray rfl rfl 30 zeroV hT1.out.res (row_size hlen) (row_zero hlen) (row_ones AT.out) ?_)
 refine bodyPost_ret (results_cell_row2 rfl _ _ (w.heap.size+1+1) 30 _ (0,0) _ rfl (hT1.out.put xs).res Tryz.underlying30 rfl (row_size hlen)) rfl ?_
 rw [HQ.out]
 exact res_intoB hB hT.out hT1.out S1.out
end Go.Proofs.YtagkjofpncpcpaaGreatDoor

/- Sums of two values, on both sides. -/
namespace Go.Proofs.YtagkjofpncpcpaaGreatDoor
open Go.RowKit Stb
end Go.Proofs.YtagkjofpncpcpaaGreatDoor
