/- The law BuiltinAriths: it says yes, of values that lie in memory. -/
import Derived.Test.YtmjfggadehkbjaaGreatDoorProg
import Derived.Test.YtmjfggadehkbjaaGreatDoorGA
import Derived.Test.YtmjfggadehkbjaaGreatDoorGB
import Derived.Test.YtmjfggadehkbjaaGreatDoorGC
import Derived.Test.YtmjfggadehkbjaaGreatDoorGD
import Derived.Test.YtmjfggadehkbjaaGreatDoorGF
import Derived.Test.YtmjfggadehkbjaaGreatDoorXD
import Derived.Test.YtmjfggadehkbjaaGreatDoorXI
import Derived.Test.YtmjfggadehkbjaaGreatDoorGW
import Derived.Test.YtmjfggadehkbjaaGreatDoorXK
import Derived.Test.YtmjfggadehkbjaaGreatDoorAH
import Derived.Test.YtmjfggadehkbjaaGreatDoorAI
import Derived.Test.YtmjfggadehkbjaaGreatDoorSam07
import Derived.Test.YtmjfggadehkbjaaGreatDoorAK
import Derived.Test.YtmjfggadehkbjaaGreatDoorAN
import Derived.Test.YtmjfggadehkbjaaGreatDoorAQ
namespace Go.Proofs.YtmjfggadehkbjaaGreatDoor
open Go.RowKit
theorem wpList_load_mid_g {P:Program} {ops:Array Oper} {rest:List Oper} {op:Oper} {a:Act} {w:World} {Q:Exit→Act→World→Prop} (hw:Region.wanted op (yielded ops a.tmps)=true) (ty:TypeId) (x:Operand) (ho:op.op=.load ty x)
 (b o:Nat) (hx:a.eval x=.pointer (some ⟨b,o,none⟩)) (cs:List Value) (d:TypeDesc) (hc:w.rangeAt b o cs)
 (hu:P.underlying ty=some d) (hd:d.isRow=true) (hi:(P.info? ty).map (·.size)=some cs.length)
 (h:wpList P ops Q rest (a.put op.dst (.agg cs.toArray)) w):wpList P ops Q (op::rest) a w :=
 wpList_step fun K hK=>by rw [if_pos hw];exact wp_load_mid ty x ho b o hx cs d hc hu hd hi (hK _ _ h)
def VlxR (v:ValD) (w:World) (e:Ending) (w':World):Prop:=∃ b,e=.returned (.bool b)∧(b=true→fitsV 60 v∧chkD v=0)∧Below w.heap.size w w'
set_option maxRecDepth 100000 in
set_option maxHeartbeats 1600000 in
theorem valid37x (v:ValD) (w:World) (B N:Nat) (cs:List Value) (hN:N≤4294967296) (hB:B≤w.heap.size) (hv:ValD.At w B N v cs):Calls Tryz.prog 5 #[.agg cs.toArray] w (VlxR v w):=by
 have HV:=Hd hv
 have hl:=Hd (show (Tryz.prog.info? 30).map (·.size)=some cs.length by rw [hv.len];exact sizeV)
 have H0:=Hd (show Below w.heap.size w (w.alloc (.cells cs.toArray 30)) from belowBox w _)
 clear hv
 go_enter Tryz.func5,Tryz.ntmps5
 go_wp2_with ((with_reducible show wpList _ _ _ (⟨some 3,_,_,_,_,_⟩::_) _ _);refine wpList_load_mid rfl 30 _ rfl w.heap.size 0 rfl cs _ (box_at w cs 30).range Tryz.underlying30 rfl hl.out ?_)
 refine (small_ex _ B N v cs (by omega) (Nat.le_trans hB H0.out.size) (HV.out.below (H0.out.mono hB))).mono ?_
 rintro e w1 ⟨b,rfl,hs,hb⟩
 have H1:=Hd (belowThen H0.out hb)
 have R1:=Hd ((box_at w cs 30).then hb (by rw [World.size_alloc];omega))
 cases b with
 | false =>
   clear hs hb
   go_wp2_with fail
   go_ret
   exact ⟨_,rfl,fun h=>(by cases h),H1.out⟩
 | true =>
   have HS:=Hd (hs rfl)
   clear hs hb
   go_wp2_with ((with_reducible show wpList _ _ _ (⟨some 6,_,_,_,_,_⟩::_) _ _);refine wpList_load_mid_g rfl 30 _ rfl w.heap.size 0 rfl cs _ R1.out.range Tryz.underlying30 rfl hl.out ?_)
   refine (check07_exact v _ B N cs hN (Nat.le_trans hB H1.out.size) (HV.out.below (H1.out.mono hB))).mono ?_
   rintro e w2 ⟨rfl,hb⟩
   obtain ⟨k,hk⟩:∃ k,chkD v=k:=⟨_,rfl⟩
   have HK:=Hd hk
   rw [hk]
   have H2:=Hd (belowThen H1.out hb)
   clear hk hb
   go_wp2_with fail
   go_ret
   refine ⟨_,rfl,fun h=>⟨HS.out,HK.out.trans ?_⟩,H2.out⟩
   simpa using h
set_option maxRecDepth 100000 in
theorem alike_yes (n:Nat) (v:ValD) (k:Int) (w:World) (B N:Nat) (cs ds:List Value) (hf:fitsV n v) (hN:N≤4294967296) (hB:B≤w.heap.size) (hv:ValD.At w B N v cs) (hu:ValD.At w B N v ds) :
 Calls Tryz.prog 10 #[.agg cs.toArray,.int .i64 k,.agg ds.toArray,.int .i64 k] w (YesB w):=by
 have HF:=Hd hf
 have HV:=Hd hv
 have HU:=Hd hu
 have hl:=Hd (show (Tryz.prog.info? 30).map (·.size)=some cs.length by rw [hv.len];exact sizeV)
 have hl2:=Hd (show (Tryz.prog.info? 30).map (·.size)=some ds.length by rw [hu.len];exact sizeV)
 have D0:=Hd (duo_boxes w cs ds 30)
 clear hf hv hu
 go_enter Tryz.func10,Tryz.ntmps10
 go_wp2_with (first
  | ((with_reducible show wpList _ _ _ (⟨some 13,_,_,_,_,_⟩::_) _ _);refine wpList_load_mid_g rfl 30 _ rfl w.heap.size 0 rfl cs _ D0.out.one.range Tryz.underlying30 rfl hl.out ?_)
  | ((with_reducible show wpList _ _ _ (⟨some 14,_,_,_,_,_⟩::_) _ _);refine wpList_load_mid_g rfl 30 _ rfl (w.heap.size+1) 0 rfl ds _ D0.out.two.range Tryz.underlying30 rfl hl2.out ?_))
 refine (same_yes n v _ B N cs ds HF.out hN (Nat.le_trans hB D0.out.below.size) (HV.out.below (D0.out.below.mono hB)) (HU.out.below (D0.out.below.mono hB))).mono ?_
 rintro e w3 ⟨rfl,hb3⟩
 have H3:=Hd (belowThen D0.out.below hb3)
 clear hb3
 go_wp2_with fail
 go_ret
 exact ⟨rfl,H3.out⟩
mutual
theorem fitsV_ex:∀ v:ValD,∃ n,fitsV n v
 | .mk k b d t x y l f=>by
   obtain ⟨n,hn⟩:=fitsL_ex l
   obtain ⟨m,hm⟩:=fitsF_ex f
   exact ⟨n+m+1,fun x hx=>fitsV_mono n _ x (hn x hx) (by omega),fun g hg=>fitsV_mono m _ g.2 (hm g hg) (by omega)⟩
theorem fitsL_ex:∀ l:List ValD,∃ n,∀ x∈l,fitsV n x
 | []=>⟨0,by simp⟩
 | v::r=>by
   obtain ⟨n,hn⟩:=fitsV_ex v
   obtain ⟨m,hm⟩:=fitsL_ex r
   exact ⟨n+m,fun x hx=>by
    rcases List.mem_cons.1 hx with rfl | hx
    ·exact fitsV_mono n _ x hn (by omega)
    ·exact fitsV_mono m _ x (hm x hx) (by omega)⟩
theorem fitsF_ex:∀ l:List (ByteArray×ValD),∃ n,∀ x∈l,fitsV n x.2
 | []=>⟨0,by simp⟩
 | (k,v)::r=>by
   obtain ⟨n,hn⟩:=fitsV_ex v
   obtain ⟨m,hm⟩:=fitsF_ex r
   exact ⟨n+m,fun x hx=>by
    rcases List.mem_cons.1 hx with rfl | hx
    ·exact fitsV_mono n _ v hn (by omega)
    ·exact fitsV_mono m _ x.2 (hm x hx) (by omega)⟩
end
section
variable {w:World} {B N N':Nat}
theorem ValD.Own.wide {v:ValD} (h:v.Own N) (hN:N≤N'):v.Own N':=by
 obtain ⟨h1,h2,h3,h4,h5,h6,h7,h8,h9,h10,h11⟩:=h
 exact ⟨h1,h2,h3,h4,h5,h6,by omega,by omega,by omega,by omega,by omega⟩
mutual
theorem ValD.At.wide (hN:N≤N'):∀ (v:ValD) {cs:List Value},ValD.At w B N v cs→ValD.At w B N' v cs
 | .mk _ _ _ _ _ _ l f,_,⟨ya,la,fa,yc,lc,fc,h1,h2,h3,h4,h5⟩=>⟨ya,la,fa,yc,lc,fc,h1,h2.wide hN,h3,ValsAt.wide hN l h4,FieldsAt.wide hN f h5⟩
theorem ValsAt.wide (hN:N≤N'):∀ (l:List ValD) {a:Option Addr},ValsAt w B N l a→ValsAt w B N' l a
 | [],_,_=>trivial
 | v::r,_,⟨⟨b,o,cs,h1,h2,h3,h4⟩,h5⟩=>⟨⟨b,o,cs,h1,h2,h3,ValD.At.wide hN v h4⟩,ValsAt.wide hN r h5⟩
theorem FieldsAt.wide (hN:N≤N'):∀ (l:List (ByteArray×ValD)) {a:Option Addr},FieldsAt w B N l a→FieldsAt w B N' l a
 | [],_,_=>trivial
 | (_,v)::r,_,⟨⟨b,o,cs,h1,h2,h0,h3,h4⟩,h5⟩=>⟨⟨b,o,cs,h1,h2,Nat.le_trans h0 hN,h3,ValD.At.wide hN v h4⟩,FieldsAt.wide hN r h5⟩
end
end
set_option maxRecDepth 100000 in
set_option maxHeartbeats 6400000 in
theorem law37a (op:ByteArray) (v u:ValD) (w:World) (M N:Nat) (cs ds:List Value) (hMN:M+M+1≤N) (h120:120≤N) (hN:N≤4294967296) (hT:Lib.Utf8Tabs 1 2 w) (hm:∃ m:Int,w.cell? ⟨0,0,none⟩=some (.int .i64 m)) (hv0:ValD.At w w.heap.size M v cs) (hu0:ValD.At w w.heap.size M u ds) :
 Calls Tryz.prog 4 #[.string op,.agg cs.toArray,.agg ds.toArray] w (YesB w):=by
 have hs1:v.text.size+u.text.size≤N∧v.text.size+1≤N∧v.list.length+u.list.length≤N∧v.fields.length+u.fields.length≤N:=by
  obtain ⟨_,_,_,_,_,_,h⟩:=hv0.has
  obtain ⟨_,_,_,_,_,_,k⟩:=hu0.has
  obtain ⟨_,_,_,_,_,_,_,h8,_,h10,h11⟩:=h.own
  obtain ⟨_,_,_,_,_,_,_,k8,_,k10,k11⟩:=k.own
  omega
 have HSZ:=Hd hs1
 have hv:=ValD.At.wide (N':=N) (by omega) v hv0
 have hu:=ValD.At.wide (N':=N) (by omega) u hu0
 have HV:=Hd hv
 have HU:=Hd hu
 have HTB:=Hd hT
 have HMZ:=Hd hm
 have hl:=Hd (show (Tryz.prog.info? 30).map (·.size)=some cs.length by rw [hv.len];exact sizeV)
 have hl2:=Hd (show (Tryz.prog.info? 30).map (·.size)=some ds.length by rw [hu.len];exact sizeV)
 have T:=Hd (duo_boxes w cs ds 30)
 clear hv hu hv0 hu0 hs1 hT hm
 go_enter Tryz.func4,Tryz.ntmps4
 go_wp2_with ((with_reducible show wpList _ _ _ (⟨some 11,_,_,_,_,_⟩::_) _ _);refine wpList_load_mid rfl 30 _ rfl (w.heap.size) 0 rfl cs _ T.out.one.range Tryz.underlying30 rfl hl.out ?_)
 refine (valid37x v _ w.heap.size N cs hN T.out.below.size (HV.out.below T.out.below)).mono ?_
 rintro e w1 ⟨b1,rfl,hq,hb⟩
 have T1:=Hd (T.out.later hb)
 cases b1 with
 | false =>
   clear hq hb
   go_wp2_with fail
   go_ret
   exact ⟨rfl,T1.out.below⟩
 | true =>
 have HQ:=Hd (hq rfl)
 clear hq hb T
 have T:=T1
 clear T1
 go_wp2_with ((with_reducible show wpList _ _ _ (⟨some 15,_,_,_,_,_⟩::_) _ _);refine wpList_load_mid_g rfl 30 _ rfl (w.heap.size+1) 0 rfl ds _ T.out.two.range Tryz.underlying30 rfl hl2.out ?_)
 refine (valid37x u _ w.heap.size N ds hN T.out.below.size (HU.out.below T.out.below)).mono ?_
 rintro e w2 ⟨b2,rfl,hq,hb⟩
 have T2:=Hd (T.out.later hb)
 cases b2 with
 | false =>
   clear hq hb
   go_wp2_with fail
   go_ret
   exact ⟨rfl,T2.out.below⟩
 | true =>
 have HQ2:=Hd (hq rfl)
 clear hq hb T
 have T:=T2
 clear T2
 go_wp2_with (first
  | ((with_reducible show wpList _ _ _ (⟨some 21,_,_,_,_,_⟩::_) _ _);refine wpList_load_mid rfl 30 _ rfl (w.heap.size) 0 rfl cs _ T.out.one.range Tryz.underlying30 rfl hl.out ?_)
  | ((with_reducible show wpList _ _ _ (⟨some 22,_,_,_,_,_⟩::_) _ _);refine wpList_load_mid rfl 30 _ rfl (w.heap.size+1) 0 rfl ds _ T.out.two.range Tryz.underlying30 rfl hl2.out ?_))
 refine (arith_p op v u _ w.heap.size N cs ds T.out.below.size hN h120 HQ.out.2 HQ2.out.2 HQ.out.1 HQ2.out.1 HSZ.out.1 HSZ.out.2.2.1 HSZ.out.2.2.2 HSZ.out.2.1 (tabs_below HTB.out T.out.below) (zero_cell HMZ.out T.out.below) (HV.out.below T.out.below) (HU.out.below T.out.below)).mono ?_
 rintro e w3 ⟨xs,rfl,hsol,hb⟩
 have hx:=hsol.here
 have HX:=Hd hx
 have T3:=Hd (T.out.later hb)
 have HLX:=Hd hx.len
 have hlx:=Hd (show (Tryz.prog.info? 30).map (·.size)=some xs.length by rw [hx.len];exact sizeV)
 have T5:=Hd (T3.out.later (belowBox w3 (.cells xs.toArray 30)))
 have X5:=Hd (box_at w3 xs 30)
 have HS5:=Hd (World.size_alloc w3 (.cells xs.toArray 30))
 obtain ⟨r,hr⟩:∃ r,r=arithV op v u:=⟨_,rfl⟩
 rw [← hr] at HX ⊢
 have HR:=Hd hr
 clear hx hb hsol T hr T3
 have T:=T5
 clear T5
 obtain ⟨r1,r2⟩:=r
 dsimp only
 go_wp2_with (first
  | ((with_reducible show wpList _ _ _ (⟨none,.store 30 (.tmp 7) _,_,_,_,_⟩::_) _ _);refine wpList_store_new rfl 30 _ _ rfl zeroV xs.toArray rfl rfl (row_size HLX.out) (row_zero HLX.out) (row_ones HX.out) ?_)
  | ((with_reducible show wpList _ _ _ (⟨some 28,_,_,_,_,_⟩::_) _ _);refine wpList_load_mid rfl 30 _ rfl (w.heap.size) 0 rfl cs _ T.out.one.range Tryz.underlying30 rfl hl.out ?_)
  | ((with_reducible show wpList _ _ _ (⟨some 29,_,_,_,_,_⟩::_) _ _);refine wpList_load_mid rfl 30 _ rfl (w.heap.size+1) 0 rfl ds _ T.out.two.range Tryz.underlying30 rfl hl2.out ?_))
 refine (arith_r op v u (w3.alloc (.cells xs.toArray 30)) w.heap.size N cs ds T.out.below.size hN h120 HQ.out.2 HQ2.out.2 HQ.out.1 HQ2.out.1 HSZ.out.1 HSZ.out.2.2.1 HSZ.out.2.2.2 HSZ.out.2.1 (tabs_below HTB.out T.out.below) (zero_cell HMZ.out T.out.below) (HV.out.below T.out.below) (HU.out.below T.out.below)).mono ?_
 rintro e w7 ⟨ys,rfl,hsol,hb⟩
 rw [← HR.out] at hsol ⊢
 have hy:=hsol.here
 have HY:=Hd hy
 have HLY:=Hd hy.len
 have hly:=Hd (show (Tryz.prog.info? 30).map (·.size)=some ys.length by rw [hy.len];exact sizeV)
 have hs7:w3.heap.size+1≤w7.heap.size:=by have:=hb.size;rw [HS5.out] at this;exact this
 have T8:=Hd ((T.out.later hb).later (belowBox w7 (.cells ys.toArray 30)))
 have X8:=Hd ((X5.out.then hb (by rw [HS5.out];omega)).then (belowBox w7 (.cells ys.toArray 30)) (by omega))
 have Y8:=Hd (box_at w7 ys 30)
 have HX8:=Hd (((HX.out.below (belowThen (belowBox w3 (.cells xs.toArray 30)) hb)).below ((belowBox w7 (.cells ys.toArray 30)).mono (by omega))).mono (show w3.heap.size≤w7.heap.size by omega))
 have HY8:=Hd (HY.out.below (belowBox w7 (.cells ys.toArray 30)))
 have HS8:=Hd (World.size_alloc w7 (.cells ys.toArray 30))
 clear hy hb hsol X5 T
 dsimp only
 go_wp2_with (first
  | ((with_reducible show wpList _ _ _ (⟨none,.store 30 (.tmp 9) _,_,_,_,_⟩::_) _ _);refine wpList_store_new rfl 30 _ _ rfl zeroV ys.toArray rfl rfl (row_size HLY.out) (row_zero HLY.out) (row_ones HY.out) ?_)
  | ((with_reducible show wpList _ _ _ (⟨some 33,_,_,_,_,_⟩::_) _ _);refine wpList_load_mid rfl 30 _ rfl w3.heap.size 0 rfl xs _ X8.out.range Tryz.underlying30 rfl hlx.out ?_)
  | ((with_reducible show wpList _ _ _ (⟨some 35,_,_,_,_,_⟩::_) _ _);refine wpList_load_mid rfl 30 _ rfl w7.heap.size 0 rfl ys _ Y8.out.range Tryz.underlying30 rfl hly.out ?_))
 obtain ⟨n,hn⟩:=fitsV_ex r1
 refine (alike_yes n r1 r2 (w7.alloc (.cells ys.toArray 30)) w7.heap.size N xs ys hn hN (by rw [HS8.out];omega) HX8.out HY8.out).mono ?_
 rintro e w9 ⟨rfl,hb⟩
 have T9:=Hd (T8.out.later hb)
 clear hb
 go_wp2_with fail
 go_ret
 exact ⟨rfl,T9.out.below⟩
end Go.Proofs.YtmjfggadehkbjaaGreatDoor
