/- builtin.join: texts joined. -/
import Derived.Test.YtagkjofpncpcpaaGreatDoorProg
import Derived.Test.YtagkjofpncpcpaaGreatDoorGA
import Derived.Test.YtagkjofpncpcpaaGreatDoorGB
import Derived.Test.YtagkjofpncpcpaaGreatDoorShelf
import Derived.Test.YtagkjofpncpcpaaGreatDoorGD
import Derived.Test.YtagkjofpncpcpaaGreatDoorRow36
import Derived.Test.YtagkjofpncpcpaaGreatDoorXE
import Derived.Test.YtagkjofpncpcpaaGreatDoorXK
import Derived.Test.YtagkjofpncpcpaaGreatDoorAD
import Derived.Test.YtagkjofpncpcpaaGreatDoorAH
import Derived.Test.YtagkjofpncpcpaaGreatDoorJA
namespace Go.Proofs.YtagkjofpncpcpaaGreatDoor
open Go.RowKit
set_option maxRecDepth 100000 in
set_option maxHeartbeats 3200000 in
theorem join_p (s t:ByteArray) (ql:List ByteArray) (w:World) (B Bo N:Nat) (cs:List Value) (hq:ql≠[]) (hj:joinT t ql=s.data.toList) (hN:N≤4294967296) (hsN:s.size≤N) (hlN:ql.length≤N) (hB:B≤w.heap.size) (hBo:Bo≤w.heap.size) (hv:ValD.At w B N (lisD (ql.map textD)) cs) :
 Calls Tryz.prog 49 #[.agg cs.toArray,.string t] w (ResR Bo N (resD (textD s)) w):=by
 obtain ⟨i0,hi,hz0,hz1,hz2⟩:=info_parts infoS
 have HI:=Hd hi
 have HZ0:=Hd hz0
 have HZ1:=Hd hz1
 have HZ2:=Hd hz2
 clear hi hz0 hz1 hz2
 obtain ⟨ya,la,va,yc,lc,vc,hh⟩:=hv.has
 obtain ⟨L,hL⟩:∃ L,L=ql.map textD:=⟨_,rfl⟩
 have HLE:=Hd hL
 have hLl:L.length=ql.length:=by rw [hL,List.length_map]
 have HA:=Hd (show ValsAt w B N L la by rw [hL];exact hh.atList)
 have HK:=Hd (show cs[0]?=some (.int .i64 6) from hh.kind)
 have HLC:=Hd (show cs[11]?=some (.slice la L.length lc) by rw [hL];exact hh.list)
 have HJ:=Hd hj
 have HQ:=Hd hq
 have HT0:=Hd (show Below w.heap.size w ((w.alloc (.cells cs.toArray 30)).alloc (.cells #[.int .i64 0,.bool false,.bool false,.string ⟨#[]⟩,.int .i64 0,.int .i64 0,.int .i64 0,.int .i64 0,.int .i64 0,.string ⟨#[]⟩,.slice none 0 0,.slice none 0 0,.slice none 0 0] 30))∧RowT 30 ((w.alloc (.cells cs.toArray 30)).alloc (.cells #[.int .i64 0,.bool false,.bool false,.string ⟨#[]⟩,.int .i64 0,.int .i64 0,.int .i64 0,.int .i64 0,.int .i64 0,.string ⟨#[]⟩,.slice none 0 0,.slice none 0 0,.slice none 0 0] 30)) w.heap.size cs∧RowAt ((w.alloc (.cells cs.toArray 30)).alloc (.cells #[.int .i64 0,.bool false,.bool false,.string ⟨#[]⟩,.int .i64 0,.int .i64 0,.int .i64 0,.int .i64 0,.int .i64 0,.string ⟨#[]⟩,.slice none 0 0,.slice none 0 0,.slice none 0 0] 30)) (w.heap.size+1) zeroV.toList from by
  refine ⟨belowThen (belowBox w _) (belowBox _ _),(RowT.new w 30 cs).alloc _,?_⟩
  have h:=heap_alloc_new (w.alloc (.cells cs.toArray 30)) (.cells #[.int .i64 0,.bool false,.bool false,.string ⟨#[]⟩,.int .i64 0,.int .i64 0,.int .i64 0,.int .i64 0,.int .i64 0,.string ⟨#[]⟩,.slice none 0 0,.slice none 0 0,.slice none 0 0] 30)
  rw [World.size_alloc] at h
  exact h)
 have e0:=HT0.out.2.1.cell HK.out
 have e11:=HT0.out.2.1.cell HLC.out
 clear hv hh hj hq hL
 go_enter Tryz.func49,Tryz.ntmps49
 go_wp2_with fail
 go_simp
 clear e0 e11
 go_loopw [6,16] (fun v i wr=>∃ (k:Nat),k≤L.length∧i=.int .i64 k∧Hid (wr.ownsRow (w.heap.size+2) 9 1 v (ql.take k).length ((ql.take k).map .string))∧Hid (Below w.heap.size w wr∧RowAt wr (w.heap.size+1) zeroV.toList)∧Hid (w.heap.size+2≤wr.heap.size)) (fun _ i _=>L.length-(intOf i).toNat)
 case atStart=>exact ⟨0,by omega,rfl,Hd (World.ownsRow_nil _ _ _ _),Hd ⟨HT0.out.1,HT0.out.2.2⟩,Hd (by rw [World.size_alloc,World.size_alloc];omega)⟩
 case round =>
  clear HT0
  obtain ⟨wa,hwa⟩:∃ wa,wa=wr:=⟨_,rfl⟩
  subst wr
  obtain ⟨k,hk,rfl,HO,HB,HSZ⟩:=hrel
  by_cases hlt:k<L.length
  ·have hkq:k<ql.length:=by omega
   obtain ⟨b0,o0,rfl,hb0,hg0⟩:=HA.out.get (by intro h;rw [h] at hlt;simp at hlt)
   obtain ⟨c0,hc0,hv0⟩:=hg0 k hlt
   obtain ⟨x,hx⟩:∃ x,x=ql[k]:=⟨_,rfl⟩
   have hxe:L[k]=textD x:=by simp only [HLE.out,List.getElem_map,hx]
   rw [hxe] at hv0
   obtain ⟨_,_,_,_,_,_,h0⟩:=hv0.has
   have C0:=Hd (hc0.below (HB.out.1.mono hB) hb0)
   have hz0:=Hd (show (Tryz.prog.info? 30).map (·.size)=some c0.length by rw [hv0.len];exact sizeV)
   have hz1:=Hd (show (Tryz.prog.info? 30).map (·.size)=some c0.toArray.size by rw [List.size_toArray,hv0.len];exact sizeV)
   have h13:=Hd (show 13=c0.toArray.size by rw [List.size_toArray,hv0.len])
   have n0:=Hd (Go.all_oneCell_toArray hv0.oneCell)
   have x0:=(RowT.new wa 30 c0).cell (show c0[0]?=some (.int .i64 4) from h0.kind)
   have x9:=(RowT.new wa 30 c0).cell (show c0[9]?=some (.string x) from h0.text)
   have HO1:=Hd (HO.out.alloc (.cells c0.toArray 30))
   have HB1:=Hd (show Below w.heap.size w (wa.alloc (.cells c0.toArray 30)) from belowThen HB.out.1 (belowBox wa _))
   have HZ1':=Hd (HB.out.2.alloc (by have:=HSZ.out;omega) (.cells c0.toArray 30))
   have HS1:=Hd (show w.heap.size+2≤(wa.alloc (.cells c0.toArray 30)).heap.size by have:=HSZ.out;rw [World.size_alloc];omega)
   have HTK:=Hd (show (ql.take (k+1))=ql.take k++[x] by rw [List.take_succ_eq_append_getElem hkq,hx])
   have HSX:=Hd (show (ql.take k).length≤4294967296 by rw [List.length_take];omega)
   clear hg0 hc0 hv0 h0 hx hxe hkq
   go_wp2_with (first
    | ((with_reducible show wpList _ _ _ (⟨some 19,_,_,_,_,_⟩::_) _ _);refine wpList_load_mid rfl 30 _ rfl b0 (o0+k * 13) rfl c0 _ C0.out.range Tryz.underlying30 rfl hz0.out ?_)
    | ((with_reducible show wpList _ _ _ (⟨none,.store 30 (.tmp 8) (.tmp 19),_,_,_,_⟩::_) _ _);refine wpList_store_new rfl 30 _ _ rfl _ c0.toArray rfl rfl hz1.out h13.out n0.out ?_)
    | ((with_reducible show wpList _ _ _ (⟨some 28,_,_,_,_,_⟩::_) _ _);refine wpList_append_own _ rfl _ _ 72 rfl (w.heap.size+2) 9 i0 (.string ⟨#[]⟩) 1 16 Tryz.underlying72 HI.out HZ0.out HZ1.out HZ2.out rfl (by decide) _ _ _ rfl (HO1.out.alloc _) ⟨wa.heap.size+1,0,none⟩ 1 1 [.string x] rfl rfl ?c1 ?c2 ?c3 ?c4 ?c5 ?_))
   case c1 =>
    intro j u hj
    match j,hj with
    | 0,hj=>simp at hj;subst hj;simp [Addr.add]
   case c2=>intro u hu;simp at hu;subst hu;rfl
   case c3=>have:=HSX.out;unfold maxLen;omega
   case c4=>have:=HSX.out;omega
   case c5=>have:=HS1.out;rw [World.size_alloc];omega
   intro v' w3 hown3 hgrow _
   have HBL:=Hd (show Below (w.heap.size+2) (wa.alloc (.cells c0.toArray 30)) w3 from (belowBox' _ _ HS1.out).grown hgrow (by have:=HS1.out;rw [World.size_alloc];omega) (fun q hq=>(HO1.out.lt q hq).1))
   have HB3:=Hd (show Below w.heap.size w w3∧RowAt w3 (w.heap.size+1) zeroV.toList from ⟨HB1.out.trans (HBL.out.mono (by omega)),HZ1'.out.below HBL.out (by omega)⟩)
   have HO3:=Hd (show w3.ownsRow (w.heap.size+2) 9 1 v' (ql.take (k+1)).length ((ql.take (k+1)).map .string) by rw [HTK.out];simpa using hown3)
   have HS3:=Hd (Nat.le_trans HS1.out HBL.out.size)
   clear hown3 hgrow
   go_wp2_with fail
   go_roundw
   case rel=>exact ⟨k+1,by omega,by go_num,HO3,HB3,HS3⟩
   case measure=>simp [intOf];omega
  ·have hke:k=ql.length:=by omega
   have h:=HO.out
   rw [hke,List.take_length] at h
   have HO2:=Hd h
   clear h
   have hqp:0<ql.length:=List.length_pos_iff.2 HQ.out
   rcases HO2.out.2 with ⟨_,h0⟩ | ⟨g,cap,cur,hve,_,hb,h1,h2,_,_⟩
   ·exfalso;omega
   subst hve
   have HGL:=Hd (Array.getElem?_eq_some_iff.1 hb).1
   have HCE:=Hd (show ∀ (j:Nat) x,ql[j]?=some x→wa.cell? ⟨g,0+j,none⟩=some (.string x) from fun j x hx=>by
    have h:=HO2.out.cells (g:=g) rfl j (.string x) (by rw [List.getElem?_map,hx];rfl)
    rwa [addr_add'] at h)
   have HC1:=Hd h1
   have HJL:=Hd (show (Lib.join (ql.map (·.data.toList)) t.data.toList).length≤140737488355328 by
    have h:=congrArg List.length HJ.out
    have e:s.data.toList.length=s.size:=by rw [Array.length_toList];rfl
    unfold joinT at h
    omega)
   have HJE:=Hd (show (⟨(Lib.join (ql.map (·.data.toList)) t.data.toList).toArray⟩:ByteArray)=s by
    have h:=HJ.out
    unfold joinT at h
    rw [h,Array.toArray_toList])
   clear hb h1 h2 hke
   go_wp2_with fail
   refine (Tryz.strings_Join g 0 cap ql t wa HCE.out HGL.out (by omega) HC1.out HJL.out).mono ?_
   rw [HJE.out]
   rintro e w2 ⟨rfl,hb2⟩
   have HB2:=Hd (show Below w.heap.size w w2 from belowThen HB.out.1 hb2)
   have HZ3:=Hd (HB.out.2.below hb2 (by have:=HSZ.out;omega))
   have HS2:=Hd (Nat.le_trans HSZ.out hb2.size)
   clear hb2
   go_wp2_with fail
   refine (text_prog s w2).mono ?_
   rintro e w3 ⟨rfl,hb3⟩
   have HB4:=Hd (show Below w.heap.size w w3 from belowThen HB2.out hb3)
   have HZ4:=Hd (HZ3.out.below hb3 (by have:=HS2.out;omega))
   have HS4:=Hd (Nat.le_trans HS2.out hb3.size)
   clear hb3
   go_wp2_with fail
   refine (valid_prog_b 1 (textD s) w3 w3.heap.size Bo N (textR s) (by omega) ⟨fun x h=>(by cases h),fun f h=>(by cases h)⟩ hN (Nat.le_refl _) (textD_at hsN)).mono ?_
   rintro e wE ⟨xs,rfl,hsol,hb⟩
   obtain ⟨r,hr⟩:∃ r,r=resD (textD s):=⟨_,rfl⟩
   rw [← hr] at hsol ⊢
   have HR:=Hd hr
   have hlen:=hsol.here.len
   have AT:=Hd hsol.here
   have S1:=Hd hsol
   have HBE:=Hd (show Below w.heap.size w wE from belowThen HB4.out hb)
   have ZE:=Hd (HZ4.out.below hb (by have:=HS4.out;omega))
   clear hsol hb hr
   obtain ⟨rv,rk⟩:=r
   go_wp2_with ((with_reducible show wpList _ _ _ (⟨none,.store 30 (.tmp 4) _,_,_,_,_⟩::_) _ _);refine wpList_store_row rfl 30 _ _ rfl (w.heap.size+1) xs.toArray rfl rfl 30 zeroV ZE.out (row_size hlen) (row_zero hlen) (row_ones AT.out) ?_)
   refine bodyPost_ret (results_cell_row2 rfl _ _ (w.heap.size+1) 30 _ (0,0) _ rfl (setRow_heap _ _ _ _ _ _ ZE.out) Tryz.underlying30 rfl (row_size hlen)) rfl ?_
   rw [← HR.out]
   refine ⟨xs,rfl,fun d hd=>S1.out d ?_,below_setRow HBE.out (by omega) _⟩
   exact (Apart.of_setRow0 xs.toArray (by omega) (by have:=HS4.out;omega)).after hd (by have:=HS4.out;omega)
end Go.Proofs.YtagkjofpncpcpaaGreatDoor
