/- builtin.sorted of values by value.Cmp: a stable order of the elements of a list. -/
import Derived.Test.YtagkjofpncpcpaaGreatDoorProg
import Derived.Test.YtagkjofpncpcpaaGreatDoorGA
import Derived.Test.YtagkjofpncpcpaaGreatDoorGB
import Derived.Test.YtagkjofpncpcpaaGreatDoorGC
import Derived.Test.YtagkjofpncpcpaaGreatDoorGD
import Derived.Test.YtagkjofpncpcpaaGreatDoorRow36
import Derived.Test.YtagkjofpncpcpaaGreatDoorChkq
import Derived.Test.YtagkjofpncpcpaaGreatDoorSmg07
import Derived.Test.YtagkjofpncpcpaaGreatDoorXA
import Derived.Test.YtagkjofpncpcpaaGreatDoorTA
import Derived.Test.YtagkjofpncpcpaaGreatDoorTC
import Derived.Test.YtagkjofpncpcpaaGreatDoorXF
import Derived.Test.YtagkjofpncpcpaaGreatDoorXI
import Derived.Test.YtagkjofpncpcpaaGreatDoorXK
import Derived.Test.YtagkjofpncpcpaaGreatDoorAD
import Derived.Test.YtagkjofpncpcpaaGreatDoorTD
import Derived.Test.YtagkjofpncpcpaaGreatDoorOrp07
import Derived.Test.YtagkjofpncpcpaaGreatDoorNam37
import Derived.Laws.EntriesVeiled
namespace Go.Proofs.YtagkjofpncpcpaaGreatDoor
namespace Stb
end Stb
open Go.RowKit Stb
set_option maxRecDepth 100000 in
theorem cmpc_p (a b:ValD) (fb:Nat) (w:World) (B N:Nat) (cs ds:List Value) (h1:okC 47 a) (h2:okC 47 b) (hN:N≤4294967296) (hB:B≤w.heap.size) (hv:ValD.At w B N a cs) (hu:ValD.At w B N b ds) (hfb:fb<w.heap.size)
 (hf:w.cell? ⟨fb,0,none⟩=some (.func (.func 84) #[] #[])) :
 Calls Tryz.prog 147 #[.agg cs.toArray,.agg ds.toArray,.pointer (some ⟨fb,0,none⟩)] w (CmpE (cmpD 47 a b) w):=by
 have D0:=Hd (duo_boxes w cs ds 30)
 have hl1:=Hd (show (Tryz.prog.info? 30).map (·.size)=some cs.length by rw [hv.len];exact sizeV)
 have hl2:=Hd (show (Tryz.prog.info? 30).map (·.size)=some ds.length by rw [hu.len];exact sizeV)
 have cF:=(D0.out.below.cell (p:=⟨fb,0,none⟩) hfb).trans hf
 have HR:=Hd (vcmp_p 47 (by omega) a b _ B N cs ds h1 h2 hN (Nat.le_trans hB D0.out.below.size) (hv.below (D0.out.below.mono hB)) (hu.below (D0.out.below.mono hB)))
 clear hv hu h1 h2 hf
 go_enter Tryz.func147,Tryz.ntmps147
 go_wp2_with (first
  | ((with_reducible show wpList _ _ _ (⟨some 7,_,_,_,_,_⟩::_) _ _);refine wpList_load_mid rfl 30 _ rfl w.heap.size 0 rfl cs _ D0.out.one.range Tryz.underlying30 rfl hl1.out ?_)
  | ((with_reducible show wpList _ _ _ (⟨some 8,_,_,_,_,_⟩::_) _ _);refine wpList_load_mid rfl 30 _ rfl (w.heap.size+1) 0 rfl ds _ D0.out.two.range Tryz.underlying30 rfl hl2.out ?_))
 refine HR.out.mono ?_
 rintro e w1 ⟨rfl,hb⟩
 have HB1:=Hd (belowThen D0.out.below hb)
 clear hb
 go_wp2_with fail
 go_ret
 exact ⟨rfl,HB1.out⟩
theorem insv0_ex (fb:Nat) (w:World):Calls Tryz.prog 265 #[.slice none 0 0,.int .i64 0,.int .i64 0,.func (.func 147) #[] #[.pointer (some ⟨fb,0,none⟩)]] w (fun e w'=>e=.returned (.tuple #[])∧w'=w):=by
 go_enter Tryz.func265,Tryz.ntmps265
 go_wp2_with fail
 go_loopw [8] (fun x wr=>x=.int .i64 1∧wr=w) (fun _ _=>0)
 case atStart=>exact ⟨rfl,rfl⟩
 case round =>
  obtain ⟨rfl,rfl⟩:=hrel
  go_wp2_with fail
  go_end0
  exact ⟨rfl,rfl⟩
theorem stbv0_ex (fb:Nat) (w:World):Calls Tryz.prog 207 #[.slice none 0 0,.int .i64 0,.func (.func 147) #[] #[.pointer (some ⟨fb,0,none⟩)]] w (fun e w'=>e=.returned (.tuple #[])∧w'=w):=by
 go_enter Tryz.func207,Tryz.ntmps207
 go_wp2_with fail
 go_loopw [7,8] (fun x y wr=>x=.int .i64 0∧y=.int .i64 20∧wr=w) (fun _ _ _=>0)
 case atStart=>exact ⟨rfl,rfl,rfl⟩
 case round =>
  obtain ⟨rfl,rfl,rfl⟩:=hrel
  go_wp2_with (go_at_call 265;refine (insv0_ex fb _).mono ?_;rintro e w2 ⟨rfl,rfl⟩)
  go_loopw [6] (fun z wr=>z=.int .i64 20∧wr=w2) (fun _ _=>0)
  case atStart=>exact ⟨rfl,rfl⟩
  case round =>
   obtain ⟨rfl,rfl⟩:=hrel
   go_wp2_with fail
   go_end0
   exact ⟨rfl,rfl⟩
theorem stablev0_ex (fb:Nat) (w:World):Calls Tryz.prog 146 #[.slice none 0 0,.func (.func 147) #[] #[.pointer (some ⟨fb,0,none⟩)]] w (fun e w'=>e=.returned (.tuple #[])∧w'=w):=by
 go_enter Tryz.func146,Tryz.ntmps146
 go_wp2_with (go_at_call 207;refine (stbv0_ex fb _).mono ?_;rintro e w2 ⟨rfl,rfl⟩)
 go_end0
 exact ⟨rfl,rfl⟩
def rowK (n:Nat) (xs:List Value) (i:Nat):List Value:=if i<n then (xs.drop (i * 13)).take 13 else zeroV.toList
theorem rowK_len {n:Nat} {xs:List Value} (h:xs.length=n * 13) (i:Nat):(rowK n xs i).length=13:=by
 unfold rowK
 split
 ·rename_i hi
  have:=Nat.mul_le_mul_right 13 (show i+1≤n by omega)
  rw [List.length_take,List.length_drop]
  omega
 ·rfl
theorem rowK_flat {n:Nat} {xs:List Value} (h:xs.length=n * 13):flatV n (fun i'=>rowK n xs (id i'))=xs:=by
 have hl:∀ k,k<n→(rowK n xs (id k)).length=13:=fun k _=>rowK_len h _
 apply List.ext_getElem?
 intro q
 by_cases hq:q<n * 13
 ·have e:q=q / 13 * 13+q % 13:=by omega
  rw [e,flatV_get hl (by omega) (by omega)]
  show (rowK n xs (q / 13))[q % 13]?=_
  unfold rowK
  rw [if_pos (by omega),List.getElem?_take,if_pos (by omega),List.getElem?_drop]
 ·rw [flatV_out hl (by omega),List.getElem?_eq_none (by omega)]
theorem rowK_at {w:World} {B N:Nat} {l:List ValD} {xs:List Value} (h:NewsV w B N l xs) (i:Nat):ValD.At w B N (atL l i) (rowK l.length xs i):=by
 by_cases hi:i<l.length
 ·unfold rowK
  rw [if_pos hi,atL_at hi]
  exact h.2 i hi
 ·unfold rowK
  have e:atL l i=zeroD:=by unfold atL;simp [List.getD,List.getElem?_eq_none (by omega:l.length≤i)]
  rw [if_neg hi,e]
  exact zeroD_at _ _ _
theorem rowK_one {w:World} {B N:Nat} {l:List ValD} {xs:List Value} (h:NewsV w B N l xs) (i:Nat):∀ v∈rowK l.length xs i,v.oneCell'=true:=(rowK_at h i).oneCell
def SrvR (N:Nat) (l:List ValD) (w:World) (e:Ending) (w':World):Prop:=∃ a c g,e=.returned (.slice a l.length c)∧Below w.heap.size w w'∧PermOn 0 l.length id g∧SortedOn (leT (cmpL l)) g 0 l.length∧ValsAt w' w'.heap.size N (ordL l g) a
set_option maxRecDepth 100000 in
set_option maxHeartbeats 3200000 in
theorem sortedv_p (l:List ValD) (la:Option Addr) (lc B N:Nat) (w:World) (hok:∀ x∈l,okC 47 x) (hl:l.length≤4294967296) (hN:N≤4294967296) (hB:B≤w.heap.size) (h:ValsAt w B N l la) :
 Calls Tryz.prog 83 #[.slice la l.length lc,.func (.func 84) #[] #[]] w (SrvR N l w):=by
 have HA:=Hd h
 have HOK:=Hd hok
 have H0:=Hd (belowBox w (.cells #[.func (.func 84) #[] #[]] 36))
 have C0:=Hd (show (w.alloc (.cells #[.func (.func 84) #[] #[]] 36)).cell? ⟨w.heap.size,0,none⟩=some (.func (.func 84) #[] #[]) by rw [World.cell?_alloc_new];rfl)
 have HS0:=Hd (World.size_alloc w (.cells #[.func (.func 84) #[] #[]] 36))
 clear h hok
 go_enter Tryz.func83,Tryz.ntmps83
 go_wp2_with fail
 refine (clonev_p l la lc B N _ hl (Nat.le_trans hB H0.out.size) (HA.out.below (H0.out.mono hB))).mono ?_
 rintro e w1 ⟨v,xs,rfl,hown,hns,hb⟩
 have HNS:=Hd (hns.below (hb.mono (Nat.le_trans hB H0.out.size)))
 have HB1:=Hd (belowThen H0.out hb)
 have C1:=Hd ((hb.cell (p:=⟨w.heap.size,0,none⟩) (show w.heap.size<_ by rw [HS0.out];omega)).trans C0.out)
 have hs1:=Hd (show w.heap.size+1≤w1.heap.size by have h:=hb.size;rw [HS0.out] at h;exact h)
 rcases hown with ⟨hlen,⟨rfl,h0⟩ | ⟨g,cap,cur,rfl,hg,hh,hc1,hc2,hc3,htk⟩⟩
 ·have HL0:=Hd (List.length_eq_zero_iff.1 h0)
  clear hb hns hlen
  rw [h0]
  go_wp2_with (go_at_call 146;refine (stablev0_ex _ _).mono ?_;rintro e w2 ⟨rfl,rfl⟩)
  go_ret
  exact ⟨none,0,id,by rw [show l.length=0 by rw [HL0.out];rfl];rfl,HB1.out,PermOn.refl _ _ _,fun i j _ hij hj=>by rw [HL0.out] at hj;simp at hj,by rw [HL0.out];exact trivial⟩
 ·obtain ⟨tl,htl⟩:∃ tl,cur.toList=xs++tl:=⟨cur.toList.drop (l.length * 13),by
   rw [← htk,List.take_append_drop]⟩
  have HG:=Hd (show w.heap.size+1≤g by rw [HS0.out] at hg;exact hg)
  have HX:=Hd (show RowsX (rowK l.length xs) w1 g l.length id tl from by
   refine ⟨?_,fun k _=>rowK_len hlen _,fun k _=>rowK_one HNS.out _⟩
   unfold RowT
   rw [rowK_flat hlen,← htl,Array.toArray_toList]
   exact hh)
  have HCM:=Hd (show CmpH (rowK l.length xs) (cmpL l) g w.heap.size w1 from fun i j u hu=>by
   have hbu:=hu.below (B:=w.heap.size) (by have:=HG.out;omega) HB1.out.size
   refine cmpc_p (atL l i) (atL l j) w.heap.size u B N _ _ (atL_ok HOK.out i) (atL_ok HOK.out j) hN (Nat.le_trans hB (Nat.le_trans HB1.out.size hu.size)) ((rowK_at HNS.out i).below (hbu.mono hB)) ((rowK_at HNS.out j).below (hbu.mono hB)) (by have:=hu.size;have:=hs1.out;omega) ?_
   have hblk:=hu.block w.heap.size (by have:=hs1.out;omega) (by have:=HG.out;omega)
   rw [← C1.out]
   simp only [World.cell?,hblk])
  clear hb hns hh hc1 hc2 hc3 htk htl hg
  go_wp2_with (go_at_call 146;refine (stablev_ex l.length cap g w.heap.size (rowK l.length xs) (cmpL l) (tri_L HOK.out) w1 HCM.out tl _ hl HX.out (FB.refl _ _)).mono ?_;rintro e w2 ⟨rfl,hf2,g2,hr2,hg3⟩;have HR3:=Hd hr2;have HF3:=Hd hf2;have HG3:=Hd hg3;clear hr2 hf2 hg3)
  go_ret
  have hb2:Below w.heap.size w1 w2:=HF3.out.below (by have:=HG.out;omega) HB1.out.size
  refine ⟨some ⟨g,0,none⟩,cap,g2,rfl,HB1.out.trans hb2,HG3.out.1,HG3.out.2,ValsAt_of' HR3.out.row.lt _ 0 fun i hi=>?_⟩
  have hi2:i<l.length:=by rw [ordL_len] at hi;exact hi
  refine ⟨rowK l.length xs (g2 i),by rw [Nat.zero_add];exact cellsOfRange (HR3.out.range hi2),?_⟩
  rw [ordL_at hi]
  exact ((rowK_at HNS.out (g2 i)).below (hb2.mono hB)).mono (Nat.le_trans hB (Nat.le_trans HB1.out.size hb2.size))
end Go.Proofs.YtagkjofpncpcpaaGreatDoor

/- builtin.lists and Apply at sort. -/
namespace Go.Proofs.YtagkjofpncpcpaaGreatDoor
open Go.RowKit Stb
def SoR (Bo N:Nat) (l:List ValD) (w:World) (e:Ending) (w':World):Prop:=∃ g,PermOn 0 l.length id g∧SortedOn (leT (cmpL l)) g 0 l.length∧ResR Bo N (resD (lisD (ordL l g))) w e w'
theorem arity_so (w:World) (h:TabAt w):Calls Tryz.prog 13 #[.string ⟨#[115,111,114,116]⟩] w (fun e w'=>e=.returned (.tuple #[.int .i64 0,.bool true])∧Below w.heap.size w w'):=by
 refine (arity_prog37 ⟨#[115,111,114,116]⟩ w h).mono ?_
 rintro e w' ⟨rfl,hb⟩
 refine ⟨?_,hb⟩
 have h1:arN (⟨#[115,111,114,116]⟩:ByteArray).toList=0:=by rw [ByteArray.toList_eq];decide
 have h2:arB (⟨#[115,111,114,116]⟩:ByteArray).toList=true:=by rw [ByteArray.toList_eq];decide
 rw [h1,h2]
set_option maxRecDepth 100000 in
set_option maxHeartbeats 6400000 in
theorem lists_so (l:List ValD) (w:World) (B Bo N:Nat) (la:Option Addr) (lc:Nat) (hN:N≤4294967296) (hok:∀ x∈l,okC 47 x) (hf:∀ x∈l,fitsV 59 x) (hlN:l.length≤N)
 (hB:B≤w.heap.size) (hBo:Bo≤w.heap.size) (hv:ValsAt w B N l la):Calls Tryz.prog 24 #[.string ⟨#[115,111,114,116]⟩,.slice la l.length lc] w (SoR Bo N l w):=by
 have HA:=Hd hv
 have HF:=Hd hf
 have HOK:=Hd hok
 have HT:=Hd (show Below w.heap.size w (w.alloc (.cells #[.int .i64 0,.bool false,.bool false,.string ⟨#[]⟩,.int .i64 0,.int .i64 0,.int .i64 0,.int .i64 0,.int .i64 0,.string ⟨#[]⟩,.slice none 0 0,.slice none 0 0,.slice none 0 0] 30))∧RowAt (w.alloc (.cells #[.int .i64 0,.bool false,.bool false,.string ⟨#[]⟩,.int .i64 0,.int .i64 0,.int .i64 0,.int .i64 0,.int .i64 0,.string ⟨#[]⟩,.slice none 0 0,.slice none 0 0,.slice none 0 0] 30)) w.heap.size zeroV.toList from ⟨belowBox w _,heap_alloc_new w _⟩)
 have HSZ:=Hd (show w.heap.size+1≤(w.alloc (.cells #[.int .i64 0,.bool false,.bool false,.string ⟨#[]⟩,.int .i64 0,.int .i64 0,.int .i64 0,.int .i64 0,.int .i64 0,.string ⟨#[]⟩,.slice none 0 0,.slice none 0 0,.slice none 0 0] 30)).heap.size by rw [World.size_alloc];exact Nat.le_refl _)
 clear hv hf hok
 go_enter Tryz.func24,Tryz.ntmps24
 go_wp2_with fail
 refine (sortedv_p l la lc B N _ HOK.out (by omega) hN (Nat.le_trans hB HT.out.1.size) (HA.out.below (HT.out.1.mono hB))).mono ?_
 rintro e w2 ⟨a2,c2,g,rfl,hb2,hp,hs,hva⟩
 have HP:=Hd hp
 have HSO:=Hd hs
 have HVA:=Hd hva
 have HFO:=Hd (show ∀ x∈ordL l g,fitsV 59 x from fun x hx=>HF.out x ((ordL_perm hp).mem_iff.1 hx))
 have HT2:=Hd (show Below w.heap.size w w2∧RowAt w2 w.heap.size zeroV.toList from ⟨belowThen HT.out.1 hb2,HT.out.2.below hb2 (by have:=HSZ.out;omega)⟩)
 have HSZ2:=Hd (show w.heap.size+1≤w2.heap.size from Nat.le_trans HSZ.out hb2.size)
 clear hb2 hp hs hva
 go_wp2_with fail
 refine (list_prog_bn 59 (by omega) (ordL l g) l.length (ordL_len l g) HFO.out a2 c2 w2 w2.heap.size Bo N hN hlN (Nat.le_refl _) (Nat.le_trans hBo HT2.out.1.size) HVA.out).mono ?_
 rintro e wE ⟨rs,rfl,hsol,hb⟩
 obtain ⟨r,hr⟩:∃ r,r=resD (lisD (ordL l g)):=⟨_,rfl⟩
 rw [← hr] at hsol ⊢
 have HR:=Hd hr
 have hlen:=hsol.here.len
 have AT:=Hd hsol.here
 have S1:=Hd hsol
 have HBE:=Hd (show Below w.heap.size w wE from belowThen HT2.out.1 hb)
 have ZE:=Hd (HT2.out.2.below hb (by have:=HSZ2.out;omega))
 clear hsol hb hr
 obtain ⟨rv,rk⟩:=r
 go_wp2_with ((with_reducible show wpList _ _ _ (⟨none,.store 30 (.tmp 4) _,_,_,_,_⟩::_) _ _);refine wpList_store_row rfl 30 _ _ rfl w.heap.size rs.toArray rfl rfl 30 zeroV ZE.out (row_size hlen) (row_zero hlen) (row_ones AT.out) ?_)
 refine bodyPost_ret (results_cell_row2 rfl _ _ w.heap.size 30 _ (0,0) _ rfl (setRow_heap _ _ _ _ _ _ ZE.out) Tryz.underlying30 rfl (row_size hlen)) rfl ?_
 refine ⟨g,HP.out,HSO.out,?_⟩
 rw [← HR.out]
 refine ⟨rs,rfl,fun d hd=>S1.out d ?_,below_setRow HBE.out (by omega) _⟩
 exact (Apart.of_setRow0 rs.toArray (by omega) (by have:=HSZ2.out;omega)).after hd (by have:=HSZ2.out;omega)
set_option maxRecDepth 100000 in
set_option maxHeartbeats 6400000 in
theorem apply_so (l:List ValD) (w:World) (B N:Nat) (cs:List Value) (hN:N≤4294967296) (hok:∀ x∈l,okC 47 x) (hf:∀ x∈l,fitsV 59 x) (hlN:l.length≤N)
 (hB:B≤w.heap.size) (hv:ValD.At w B N (lisD l) cs) (ht:TabAt w):Calls Tryz.prog 7 #[.string ⟨#[115,111,114,116]⟩,.agg cs.toArray,.slice none 0 0] w (SoR B N l w):=by
 obtain ⟨ya,la,va,yc,lc,vc,hh⟩:=hv.has
 have HA:=Hd (show ValsAt w B N l la from hh.atList)
 have HK:=Hd (show cs[0]?=some (.int .i64 6) from hh.kind)
 have HLC:=Hd (show cs[11]?=some (.slice la l.length lc) from hh.list)
 have HF:=Hd hf
 have HOK:=Hd hok
 have HTB:=Hd ht
 have HT0:=Hd (show (Below w.heap.size w ((w.alloc (.cells cs.toArray 30)).alloc (.cells #[.int .i64 0,.bool false,.bool false,.string ⟨#[]⟩,.int .i64 0,.int .i64 0,.int .i64 0,.int .i64 0,.int .i64 0,.string ⟨#[]⟩,.slice none 0 0,.slice none 0 0,.slice none 0 0] 30))∧RowAt ((w.alloc (.cells cs.toArray 30)).alloc (.cells #[.int .i64 0,.bool false,.bool false,.string ⟨#[]⟩,.int .i64 0,.int .i64 0,.int .i64 0,.int .i64 0,.int .i64 0,.string ⟨#[]⟩,.slice none 0 0,.slice none 0 0,.slice none 0 0] 30)) (w.heap.size+1) zeroV.toList)∧RowT 30 ((w.alloc (.cells cs.toArray 30)).alloc (.cells #[.int .i64 0,.bool false,.bool false,.string ⟨#[]⟩,.int .i64 0,.int .i64 0,.int .i64 0,.int .i64 0,.int .i64 0,.string ⟨#[]⟩,.slice none 0 0,.slice none 0 0,.slice none 0 0] 30)) w.heap.size cs from by
  refine ⟨⟨belowThen (belowBox w _) (belowBox _ _),?_⟩,(RowT.new w 30 cs).alloc _⟩
  have h:=heap_alloc_new (w.alloc (.cells cs.toArray 30)) (.cells #[.int .i64 0,.bool false,.bool false,.string ⟨#[]⟩,.int .i64 0,.int .i64 0,.int .i64 0,.int .i64 0,.int .i64 0,.string ⟨#[]⟩,.slice none 0 0,.slice none 0 0,.slice none 0 0] 30)
  rw [World.size_alloc] at h
  exact h)
 have HS0:=Hd (show ((w.alloc (.cells cs.toArray 30)).alloc (.cells #[.int .i64 0,.bool false,.bool false,.string ⟨#[]⟩,.int .i64 0,.int .i64 0,.int .i64 0,.int .i64 0,.int .i64 0,.string ⟨#[]⟩,.slice none 0 0,.slice none 0 0,.slice none 0 0] 30)).heap.size=w.heap.size+2 by rw [World.size_alloc,World.size_alloc])
 clear hv hf hok ht hh
 go_enter Tryz.func7,Tryz.ntmps7
 go_wp2_with fail
 refine (arity_so _ (HTB.out.below HT0.out.1.1)).mono ?_
 rintro e wC ⟨rfl,hb⟩
 have HT:=Hd (show Below w.heap.size w wC∧RowAt wC (w.heap.size+1) zeroV.toList from ⟨belowThen HT0.out.1.1 hb,HT0.out.1.2.below hb (by rw [HS0.out];omega)⟩)
 have RC:=Hd (HT0.out.2.then hb)
 have HSZ:=Hd (show w.heap.size+2≤wC.heap.size by have h:=hb.size;rw [HS0.out] at h;exact h)
 clear hb
 have e0:=RC.out.cell HK.out
 have e11:=RC.out.cell HLC.out
 go_wp2_with fail
 refine (lists_so l _ B B N la lc hN HOK.out HF.out hlN (Nat.le_trans hB HT.out.1.size) (Nat.le_trans hB HT.out.1.size) (HA.out.below (HT.out.1.mono hB))).mono ?_
 clear e0 e11
 rintro e wE ⟨g,hp,hs,rs,rfl,hsol,hb⟩
 have HP:=Hd hp
 have HSO:=Hd hs
 clear hp hs
 obtain ⟨r,hr⟩:∃ r,r=resD (lisD (ordL l g)):=⟨_,rfl⟩
 rw [← hr] at hsol ⊢
 have HR:=Hd hr
 have hlen:=hsol.here.len
 have AT:=Hd hsol.here
 have S1:=Hd hsol
 have HBE:=Hd (show Below w.heap.size w wE from belowThen HT.out.1 hb)
 have ZE:=Hd (HT.out.2.below hb (by have:=HSZ.out;omega))
 clear hsol hb hr
 obtain ⟨rv,rk⟩:=r
 go_wp2_with ((with_reducible show wpList _ _ _ (⟨none,.store 30 (.tmp 6) _,_,_,_,_⟩::_) _ _);refine wpList_store_row rfl 30 _ _ rfl (w.heap.size+1) rs.toArray rfl rfl 30 zeroV ZE.out (row_size hlen) (row_zero hlen) (row_ones AT.out) ?_)
 refine bodyPost_ret (results_cell_row2 rfl _ _ (w.heap.size+1) 30 _ (0,0) _ rfl (setRow_heap _ _ _ _ _ _ ZE.out) Tryz.underlying30 rfl (row_size hlen)) rfl ?_
 refine ⟨g,HP.out,HSO.out,?_⟩
 rw [← HR.out]
 refine ⟨rs,rfl,fun d hd=>S1.out d ?_,below_setRow HBE.out (by omega) _⟩
 exact (Apart.of_setRow0 rs.toArray (by omega) (by have:=HSZ.out;omega)).after hd (by have:=HSZ.out;omega)
end Go.Proofs.YtagkjofpncpcpaaGreatDoor
