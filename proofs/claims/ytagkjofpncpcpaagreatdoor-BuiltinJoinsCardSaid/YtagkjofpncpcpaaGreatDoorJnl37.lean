/- The law BuiltinJoins: it says yes. -/
import Derived.Test.YtagkjofpncpcpaaGreatDoorProg
import Derived.Test.YtagkjofpncpcpaaGreatDoorGA
import Derived.Test.YtagkjofpncpcpaaGreatDoorGB
import Derived.Test.YtagkjofpncpcpaaGreatDoorGC
import Derived.Test.YtagkjofpncpcpaaGreatDoorGD
import Derived.Test.YtagkjofpncpcpaaGreatDoorRow36
import Derived.Test.YtagkjofpncpcpaaGreatDoorGF
import Derived.Test.YtagkjofpncpcpaaGreatDoorXD
import Derived.Test.YtagkjofpncpcpaaGreatDoorXE
import Derived.Test.YtagkjofpncpcpaaGreatDoorGW
import Derived.Test.YtagkjofpncpcpaaGreatDoorXK
import Derived.Test.YtagkjofpncpcpaaGreatDoorAE
import Derived.Test.YtagkjofpncpcpaaGreatDoorAH
import Derived.Test.YtagkjofpncpcpaaGreatDoorAI
import Derived.Test.YtagkjofpncpcpaaGreatDoorJA
import Derived.Test.YtagkjofpncpcpaaGreatDoorJnc37
import Derived.Test.YtagkjofpncpcpaaGreatDoorArc04
import Derived.Test.YtagkjofpncpcpaaGreatDoorJna37
import Derived.Test.YtagkjofpncpcpaaGreatDoorSam07
namespace Go.Proofs.YtagkjofpncpcpaaGreatDoor
open Go.RowKit
theorem wpList_load_mid_g {P:Program} {ops:Array Oper} {rest:List Oper} {op:Oper} {a:Act} {w:World} {Q:Exit→Act→World→Prop} (hw:Region.wanted op (yielded ops a.tmps)=true) (ty:TypeId) (x:Operand) (ho:op.op=.load ty x)
 (b o:Nat) (hx:a.eval x=.pointer (some ⟨b,o,none⟩)) (cs:List Value) (d:TypeDesc) (hc:w.rangeAt b o cs)
 (hu:P.underlying ty=some d) (hd:d.isRow=true) (hi:(P.info? ty).map (·.size)=some cs.length)
 (h:wpList P ops Q rest (a.put op.dst (.agg cs.toArray)) w):wpList P ops Q (op::rest) a w :=
 wpList_step fun K hK=>by rw [if_pos hw];exact wp_load_mid ty x ho b o hx cs d hc hu hd hi (hK _ _ h)
def VlxR (v:ValD) (w:World) (e:Ending) (w':World):Prop:=∃ b,e=.returned (.bool b)∧(b=true→fitsV 60 v∧chkD v=0)∧Below w.heap.size w w'
set_option maxRecDepth 100000 in
set_option maxHeartbeats 1600000 in
theorem valid37x (v:ValD) (w:World) (B N:Nat) (cs:List Value) (hN:N≤4294967296) (hB:B≤w.heap.size) (hv:ValD.At w B N v cs):Calls Tryz.prog 6 #[.agg cs.toArray] w (VlxR v w):=by
 have HV:=Hd hv
 have hl:=Hd (show (Tryz.prog.info? 30).map (·.size)=some cs.length by rw [hv.len];exact sizeV)
 have H0:=Hd (show Below w.heap.size w (w.alloc (.cells cs.toArray 30)) from belowBox w _)
 clear hv
 go_enter Tryz.func6,Tryz.ntmps6
 go_wp2_with ((with_reducible show wpList _ _ _ (⟨some 3,_,_,_,_,_⟩::_) _ _);refine wpList_load_mid rfl 30 _ rfl w.heap.size 0 rfl cs _ (box_at w cs 30).range Tryz.underlying30 rfl hl.out ?_)
 refine (small_ex _ B N v cs (by omega) (Nat.le_trans hB H0.out.size) (HV.out.below (H0.out.mono hB))).mono ?_
 rintro e w1 ⟨b,rfl,hs,hb⟩
 have H1:=Hd (belowThen H0.out hb)
 have R1:=Hd ((box_at w cs 30).then hb (by rw [World.size_alloc];omega))
 cases b with
 | false =>
   clear hs hb
   go_wp2_with fail
   go_ret
   exact ⟨_,rfl,fun h=>(by cases h),H1.out⟩
 | true =>
   have HS:=Hd (hs rfl)
   clear hs hb
   go_wp2_with ((with_reducible show wpList _ _ _ (⟨some 6,_,_,_,_,_⟩::_) _ _);refine wpList_load_mid_g rfl 30 _ rfl w.heap.size 0 rfl cs _ R1.out.range Tryz.underlying30 rfl hl.out ?_)
   refine (check07_exact v _ B N cs hN (Nat.le_trans hB H1.out.size) (HV.out.below (H1.out.mono hB))).mono ?_
   rintro e w2 ⟨rfl,hb⟩
   obtain ⟨k,hk⟩:∃ k,chkD v=k:=⟨_,rfl⟩
   have HK:=Hd hk
   rw [hk]
   have H2:=Hd (belowThen H1.out hb)
   clear hk hb
   go_wp2_with fail
   go_ret
   refine ⟨_,rfl,fun h=>⟨HS.out,HK.out.trans ?_⟩,H2.out⟩
   simpa using h
theorem wp_rowsJ {o:Oper} {a:Act} {w:World} {K:Act→World→Prop} {Q:Exit→Act→World→Prop} (rows:List (List Value)) (fl:List Value) (hfl:rows.flatten=fl) (len:Nat) (parts:Array (Nat×Operand)) (ho:o.op=.buildSlice 22 len parts)
 (hlen:rows.length=len) (hpos:0<len) (hle:len≤1000) (h14:∀ r∈rows,r.length=13) (hp:(parts.map fun (i,x)=>(i,a.eval x)).toList=((rows.map fun r=>Value.agg r.toArray).zipIdx 0).map fun x=>(x.2,x.1))
 (h:K (a.put o.dst (.slice (some ⟨w.heap.size,0,none⟩) len len)) (w.alloc (.cells fl.toArray 30))):o.wp Tryz.prog a w K Q:=by
 subst hfl
 obtain ⟨z,hz,hi⟩:=infoV
 cases hie:Tryz.prog.info? 30 with
 | none=>rw [hie] at hi;cases hi
 | some ie =>
   rw [hie] at hi
   simp only [Option.map_some,Option.some.injEq,Prod.mk.injEq] at hi
   obtain ⟨h1,h2,_⟩:=hi
   refine wp_buildSlice 22 30 len parts ho rows.flatten.toArray ie (.agg z) Tryz.underlying22 hie h1 (by rw [h2];omega) (by rw [h2];omega) ?_ h
   have e:=Great.fill_whole (s:=13) (by decide) (rows.map fun r=>Value.agg r.toArray) ((Array.range (len * 13)).map ((Value.agg z).cells[· % (Value.agg z).cells.size]!)) (fun v hv=>by
    obtain ⟨r,hr,rfl⟩:=List.mem_map.1 hv
    show r.toArray.size=13
    rw [List.size_toArray]
    exact h14 r hr) (by simp [hlen])
   rw [flat_agg] at e
   rw [hp,h2]
   exact e
theorem wpList_rowsJ {ops:Array Oper} {rest:List Oper} {o:Oper} {a:Act} {w:World} {Q:Exit→Act→World→Prop} (hg:o.guard=none) (rows:List (List Value)) (fl:List Value) (hfl:rows.flatten=fl) (len:Nat) (parts:Array (Nat×Operand)) (ho:o.op=.buildSlice 22 len parts)
 (hlen:rows.length=len) (hpos:0<len) (hle:len≤1000) (h14:∀ r∈rows,r.length=13) (hp:(parts.map fun (i,x)=>(i,a.eval x)).toList=((rows.map fun r=>Value.agg r.toArray).zipIdx 0).map fun x=>(x.2,x.1))
 (h:wpList Tryz.prog ops Q rest (a.put o.dst (.slice (some ⟨w.heap.size,0,none⟩) len len)) (w.alloc (.cells fl.toArray 30))):wpList Tryz.prog ops Q (o::rest) a w :=
 wpList_plain hg fun _ hK=>wp_rowsJ rows fl hfl len parts ho hlen hpos hle h14 hp (hK _ _ h)
theorem textD_any {w:World} {B N:Nat} {s:ByteArray} {cs:List Value} (h:ValD.At w B N (textD s) cs) (w':World) (B':Nat):ValD.At w' B' N (textD s) cs:=by
 obtain ⟨ya,la,va,yc,lc,vc,rfl,hown,_,_,_⟩:=h.row
 exact ValD.At.mk hown (.inl rfl) trivial trivial
theorem textD_fits (s:ByteArray) {n:Nat}:fitsV (n+1) (textD s):=⟨fun x h=>(by cases h),fun f h=>(by cases h)⟩
theorem plus_tt {a b:ByteArray} (h:chkD (textD (a++b))=0):plusV (textD a) (textD b)=(textD (a++b),0):=by
 unfold plusV
 rw [if_neg (show ¬ (textD a).kind=0 by show ¬ (4:Int)=0;decide),if_neg (show ¬ (textD b).kind=0 by show ¬ (4:Int)=0;decide),if_neg (show ¬ (textD a).kind≠(textD b).kind from fun h=>h rfl),if_neg (show ¬ (textD a).kind=2 by show ¬ (4:Int)=2;decide),if_pos (show (textD a).kind=4 from rfl)]
 exact resD_ok h
theorem quo_tt {a b:ByteArray} (hb:¬ b.size=0) (h:chkD (lisD ((splitA b a).map textD))=0):quoV (textD a) (textD b)=(lisD ((splitA b a).map textD),0):=by
 unfold quoV
 rw [if_neg (show ¬ ((textD a).kind=2∧(textD b).kind=2) by show ¬ ((4:Int)=2∧(4:Int)=2);decide),if_pos (show (textD a).kind=4∧(textD b).kind=4 from ⟨rfl,rfl⟩)]
 show resD (lisD ((quoL a b).map textD))=_
 unfold quoL
 rw [if_neg hb]
 exact resD_ok h
set_option maxRecDepth 100000 in
set_option maxHeartbeats 12800000 in
theorem law37j (a b c:ByteArray) (w:World) (N:Nat) (hN3:3000≤N) (hN:N≤65536) (hT:Lib.Utf8Tabs 3 4 w) (hm:∃ m:Int,w.cell? ⟨1,0,none⟩=some (.int .i64 m)) :
 Calls Tryz.prog 5 #[.string a,.string b,.string c] w (YesB w):=by
 have HTB:=Hd hT
 have HMZ:=Hd hm
 obtain ⟨ra,hra⟩:∃ ra,ra=textR a:=⟨_,rfl⟩
 obtain ⟨rb,hrb⟩:∃ rb,rb=textR b:=⟨_,rfl⟩
 obtain ⟨rc,hrc⟩:∃ rc,rc=textR c:=⟨_,rfl⟩
 have HRA:=Hd hra
 have HRB:=Hd hrb
 have HRC:=Hd hrc
 have ha13:=Hd (show (Tryz.prog.info? 30).map (·.size)=some ra.length by rw [hra];exact sizeV)
 have hb13:=Hd (show (Tryz.prog.info? 30).map (·.size)=some rb.length by rw [hrb];exact sizeV)
 have hc13:=Hd (show (Tryz.prog.info? 30).map (·.size)=some rc.length by rw [hrc];exact sizeV)
 have hrb13:=Hd (show rb.length=13 by rw [hrb];rfl)
 have T:=Hd (tval w ra rb rc)
 have HW:=Hd (show ((w.alloc (.cells ra.toArray 30)).alloc (.cells rb.toArray 30)).alloc (.cells rc.toArray 30)=((w.alloc (.cells (textR a).toArray 30)).alloc (.cells (textR b).toArray 30)).alloc (.cells (textR c).toArray 30) by rw [hra,hrb,hrc])
 clear hT hm hra hrb hrc
 by_cases ga:500<a.size
 ·go_enter Tryz.func5,Tryz.ntmps5
  go_wp2_with fail
  go_ret
  exact ⟨rfl,(by have h:=T.out.below;rw [HW.out] at h;exact h)⟩
 by_cases gb:500<b.size
 ·go_enter Tryz.func5,Tryz.ntmps5
  go_wp2_with fail
  go_ret
  exact ⟨rfl,(by have h:=T.out.below;rw [HW.out] at h;exact h)⟩
 by_cases gc:500<c.size
 ·go_enter Tryz.func5,Tryz.ntmps5
  go_wp2_with fail
  go_ret
  exact ⟨rfl,(by have h:=T.out.below;rw [HW.out] at h;exact h)⟩
 by_cases g0:b.size=0
 ·have t0:=tl_nil g0
  have t1:(b.toList==[])=true:=by rw [t0];rfl
  clear g0 t0
  go_enter Tryz.func5,Tryz.ntmps5
  go_wp2_with fail
  go_ret
  exact ⟨rfl,(by have h:=T.out.below;rw [HW.out] at h;exact h)⟩
 have t1:=tl_cons g0
 have da:decide ((500:Int)<(a.size:Int))=false:=decide_eq_false (by omega)
 have db:decide ((500:Int)<(b.size:Int))=false:=decide_eq_false (by omega)
 have dc:decide ((500:Int)<(c.size:Int))=false:=decide_eq_false (by omega)
 have G0:=Hd g0
 have HAA:=Hd (show ∀ (w':World) (B':Nat),ValD.At w' B' N (textD a) ra from fun w' B'=>by rw [HRA.out];exact textD_at (by omega))
 have HBB:=Hd (show ∀ (w':World) (B':Nat),ValD.At w' B' N (textD b) rb from fun w' B'=>by rw [HRB.out];exact textD_at (by omega))
 have HCC:=Hd (show ∀ (w':World) (B':Nat),ValD.At w' B' N (textD c) rc from fun w' B'=>by rw [HRC.out];exact textD_at (by omega))
 clear g0
 go_enter Tryz.func5,Tryz.ntmps5
 go_upto_region 2 with fail
 rw [show ((w.alloc (.cells #[.int .i64 4,.bool false,.bool false,.string ⟨#[]⟩,.int .i64 0,.int .i64 0,.int .i64 0,.int .i64 0,.int .i64 0,.string a,.slice none 0 0,.slice none 0 0,.slice none 0 0] 30)).alloc (.cells #[.int .i64 4,.bool false,.bool false,.string ⟨#[]⟩,.int .i64 0,.int .i64 0,.int .i64 0,.int .i64 0,.int .i64 0,.string b,.slice none 0 0,.slice none 0 0,.slice none 0 0] 30)).alloc (.cells #[.int .i64 4,.bool false,.bool false,.string ⟨#[]⟩,.int .i64 0,.int .i64 0,.int .i64 0,.int .i64 0,.int .i64 0,.string c,.slice none 0 0,.slice none 0 0,.slice none 0 0] 30)=_ from HW.out.symm]
 clear HW
 go_wp2_with ((with_reducible show wpList _ _ _ (⟨some 46,_,_,_,_,_⟩::_) _ _);refine wpList_load_mid_g rfl 30 _ rfl (w.heap.size) 0 rfl ra _ T.out.one.range Tryz.underlying30 rfl ha13.out ?_)
 refine (valid37x (textD a) _ w.heap.size N ra (by omega) T.out.below.size (HAA.out _ _)).mono ?_
 rintro e w1 ⟨b1,rfl,hq,hb⟩
 have T1:=Hd (T.out.later hb)
 cases b1 with
 | false =>
   clear hq hb
   go_wp2_with fail
   go_ret
   exact ⟨rfl,T1.out.below⟩
 | true =>
 have CA:=Hd (hq rfl).2
 clear hq hb T
 have T:=T1
 clear T1
 go_wp2_with ((with_reducible show wpList _ _ _ (⟨some 51,_,_,_,_,_⟩::_) _ _);refine wpList_load_mid_g rfl 30 _ rfl (w.heap.size+1) 0 rfl rb _ T.out.two.range Tryz.underlying30 rfl hb13.out ?_)
 refine (valid37x (textD b) _ w.heap.size N rb (by omega) T.out.below.size (HBB.out _ _)).mono ?_
 rintro e w1 ⟨b1,rfl,hq,hb⟩
 have T1:=Hd (T.out.later hb)
 cases b1 with
 | false =>
   clear hq hb
   go_wp2_with fail
   go_ret
   exact ⟨rfl,T1.out.below⟩
 | true =>
 have CB:=Hd (hq rfl).2
 clear hq hb T
 have T:=T1
 clear T1
 go_wp2_with ((with_reducible show wpList _ _ _ (⟨some 56,_,_,_,_,_⟩::_) _ _);refine wpList_load_mid_g rfl 30 _ rfl (w.heap.size+1+1) 0 rfl rc _ T.out.res.range Tryz.underlying30 rfl hc13.out ?_)
 refine (valid37x (textD c) _ w.heap.size N rc (by omega) T.out.below.size (HCC.out _ _)).mono ?_
 rintro e w1 ⟨b1,rfl,hq,hb⟩
 have T1:=Hd (T.out.later hb)
 cases b1 with
 | false =>
   clear hq hb
   go_wp2_with fail
   go_ret
   exact ⟨rfl,T1.out.below⟩
 | true =>
 have CC:=Hd (hq rfl).2
 clear hq hb T
 have T:=T1
 clear T1
 have VA:=Hd (chkD_own CA.out).2.1
 have VB:=Hd (chkD_own CB.out).2.1
 have VC:=Hd (chkD_own CC.out).2.1
 have CAB:=Hd (show chkD (textD (a++b))=0 from text_ok (cat_valid VA.out VB.out) (by rw [ByteArray.size_append];omega))
 have CBC:=Hd (show chkD (textD (b++c))=0 from text_ok (cat_valid VB.out VC.out) (by rw [ByteArray.size_append];omega))
 have CABC:=Hd (show chkD (textD (a++b++c))=0 from text_ok (cat_valid (cat_valid VA.out VB.out) VC.out) (by rw [ByteArray.size_append,ByteArray.size_append];omega))
 have hb1:1≤b.size:=by have:=G0.out;omega
 have HQL:=Hd (show (splitA b a).length≤a.size+1 by have h:=quoL_len (t:=b) VA.out;unfold quoL at h;rwa [if_neg G0.out] at h)
 have HLS:=Hd (texts_ok (l:=splitA b a) (fun x hx=>⟨splitA_valid VB.out hb1 a.size a (Nat.le_refl _) VA.out x hx,by have:=splitB_sizes b _ a x hx;omega⟩) (by have:=HQL.out;omega))
 go_wp2_with (first
  | ((with_reducible show wpList _ _ _ (⟨some 61,_,_,_,_,_⟩::_) _ _);refine wpList_load_mid rfl 30 _ rfl (w.heap.size) 0 rfl ra _ T.out.one.range Tryz.underlying30 rfl ha13.out ?_)
  | ((with_reducible show wpList _ _ _ (⟨some 62,_,_,_,_,_⟩::_) _ _);refine wpList_load_mid rfl 30 _ rfl (w.heap.size+1) 0 rfl rb _ T.out.two.range Tryz.underlying30 rfl hb13.out ?_))
 refine (ar_qu_t_p (textD a) (textD b) _ w.heap.size N ra rb T.out.below.size (by omega) (by omega) CA.out CB.out (textD_fits a) (textD_fits b) (show a.size+b.size≤N by omega) (Nat.zero_le _) (Nat.zero_le _) (show a.size+1≤N by omega) (tabs_below HTB.out T.out.below) (zero_cell HMZ.out T.out.below) (HAA.out _ _) (HBB.out _ _) rfl rfl).mono ?_
 rw [quo_tt G0.out HLS.out]
 rintro e w3 ⟨xl,rfl,hsol,hb⟩
 have hx:=hsol.here
 have HX:=Hd hx
 have hl13:=Hd (show (Tryz.prog.info? 30).map (·.size)=some xl.length by rw [hx.len];exact sizeV)
 have HLX:=Hd hx.len
 have T5:=Hd ((T.out.later hb).later (belowBox w3 (.cells xl.toArray 30)))
 have X5:=Hd (RowT.new w3 30 xl)
 have HS5:=Hd (World.size_alloc w3 (.cells xl.toArray 30))
 have HB6:=Hd (show Below w3.heap.size w3 ((w3.alloc (.cells xl.toArray 30)).alloc (.cells rb.toArray 30)) from belowThen (belowBox w3 _) (belowBox _ _))
 have R6:=Hd (show RowT 30 ((w3.alloc (.cells xl.toArray 30)).alloc (.cells rb.toArray 30)) (w3.heap.size+1) rb from by have h:=RowT.new (w3.alloc (.cells xl.toArray 30)) 30 rb;rwa [World.size_alloc] at h)
 have HS6:=Hd (show ((w3.alloc (.cells xl.toArray 30)).alloc (.cells rb.toArray 30)).heap.size=w3.heap.size+2 by rw [World.size_alloc,World.size_alloc])
 have HT6:=Hd (show Tval w ((w3.alloc (.cells xl.toArray 30)).alloc (.cells rb.toArray 30)) ra rb rc from T5.out.later (belowBox _ _))
 clear hx hb hsol T
 have T:=T5
 clear T5
 dsimp only
 go_wp2_with (first
  | ((with_reducible show wpList _ _ _ (⟨none,.store 30 (.tmp 10) _,_,_,_,_⟩::_) _ _);refine wpList_store_new rfl 30 _ _ rfl zeroV xl.toArray rfl rfl (row_size HLX.out) (row_zero HLX.out) (Go.all_oneCell_toArray HX.out.oneCell) ?_)
  | ((with_reducible show wpList _ _ _ (⟨some 67,_,_,_,_,_⟩::_) _ _);refine wpList_load_mid rfl 30 _ rfl (w3.heap.size) 0 rfl xl _ X5.out.range Tryz.underlying30 rfl hl13.out ?_)
  | ((with_reducible show wpList _ _ _ (⟨some 68,_,_,_,_,_⟩::_) _ _);refine wpList_load_mid rfl 30 _ rfl (w.heap.size+1) 0 rfl rb _ T.out.two.range Tryz.underlying30 rfl hb13.out ?_)
  | ((with_reducible show wpList _ _ _ (⟨some 69,_,_,_,_,_⟩::_) _ _);refine wpList_rowsJ rfl [rb] rb (by simp) 1 _ rfl rfl (by decide) (by decide) (by intro r hr;simp at hr;rw [hr];exact hrb13.out) (by rw [List.map_toArray];rfl) ?_))
 refine (apply_join a b (splitA b a) _ (w3.heap.size+2) N xl rb (splitA_some b a) (join_split hb1 a.size a (Nat.le_refl _)) (by omega) (by omega) (by have:=HQL.out;omega) (by rw [HS6.out];exact Nat.le_refl _) ((HX.out.below HB6.out).mono (by omega)) (HBB.out _ _) (w3.heap.size+1) 0 1 (by omega) R6.out.cells).mono ?_
 rw [resD_ok CA.out]
 rintro e w7 ⟨xs,rfl,hsol,hb⟩
 have hx:=hsol.here
 have HXS:=Hd hx
 have hs13:=Hd (show (Tryz.prog.info? 30).map (·.size)=some xs.length by rw [hx.len];exact sizeV)
 have HLS2:=Hd hx.len
 have T8:=Hd ((HT6.out.later hb).later (belowBox w7 (.cells xs.toArray 30)))
 have X8:=Hd (RowT.new w7 30 xs)
 clear hx hb hsol T X5 HX HB6 R6 HS6 HT6 HS5 HLX
 have T:=T8
 clear T8
 dsimp only
 go_wp2_with (first
  | ((with_reducible show wpList _ _ _ (⟨none,.store 30 (.tmp 12) _,_,_,_,_⟩::_) _ _);refine wpList_store_new rfl 30 _ _ rfl zeroV xs.toArray rfl rfl (row_size HLS2.out) (row_zero HLS2.out) (Go.all_oneCell_toArray HXS.out.oneCell) ?_)
  | ((with_reducible show wpList _ _ _ (⟨some 80,_,_,_,_,_⟩::_) _ _);refine wpList_load_mid_g rfl 30 _ rfl (w7.heap.size) 0 rfl xs _ X8.out.range Tryz.underlying30 rfl hs13.out ?_)
  | ((with_reducible show wpList _ _ _ (⟨some 81,_,_,_,_,_⟩::_) _ _);refine wpList_load_mid_g rfl 30 _ rfl (w.heap.size) 0 rfl ra _ T.out.one.range Tryz.underlying30 rfl ha13.out ?_))
 refine (same_yes 1 (textD a) _ w.heap.size N xs ra (textD_fits a) (by omega) T.out.below.size (textD_any HXS.out _ _) (HAA.out _ _)).mono ?_
 rintro e w9 ⟨rfl,hb⟩
 have T10:=Hd (T.out.later hb)
 clear hb T X8 HXS HLS2
 have T:=T10
 clear T10
 go_wp2_with (first
  | ((with_reducible show wpList _ _ _ (⟨some 86,_,_,_,_,_⟩::_) _ _);refine wpList_load_mid rfl 30 _ rfl (w.heap.size) 0 rfl ra _ T.out.one.range Tryz.underlying30 rfl ha13.out ?_)
  | ((with_reducible show wpList _ _ _ (⟨some 87,_,_,_,_,_⟩::_) _ _);refine wpList_load_mid rfl 30 _ rfl (w.heap.size+1) 0 rfl rb _ T.out.two.range Tryz.underlying30 rfl hb13.out ?_))
 refine (ar_pl_t_p (textD a) (textD b) _ w.heap.size N ra rb T.out.below.size (by omega) (by omega) CA.out CB.out (textD_fits _) (textD_fits _) (show a.size+b.size≤N by omega) (Nat.zero_le _) (Nat.zero_le _) (show a.size+1≤N by omega) (tabs_below HTB.out T.out.below) (zero_cell HMZ.out T.out.below) (HAA.out _ _) (HBB.out _ _) rfl rfl).mono ?_
 rw [plus_tt CAB.out]
 rintro e wP ⟨xP,rfl,hsol,hb⟩
 have hx:=hsol.here
 have HP:=Hd hx
 have hnP:=Hd (show (Tryz.prog.info? 30).map (·.size)=some xP.length by rw [hx.len];exact sizeV)
 have HLP:=Hd hx.len
 have TN:=Hd ((T.out.later hb).later (belowBox wP (.cells xP.toArray 30)))
 have XP:=Hd (RowT.new wP 30 xP)
 clear hx hb hsol T
 have T:=TN
 clear TN
 dsimp only
 go_wp2_with (first
  | ((with_reducible show wpList _ _ _ (⟨none,.store 30 (.tmp 14) _,_,_,_,_⟩::_) _ _);refine wpList_store_new rfl 30 _ _ rfl zeroV xP.toArray rfl rfl (row_size HLP.out) (row_zero HLP.out) (Go.all_oneCell_toArray HP.out.oneCell) ?_)
  | ((with_reducible show wpList _ _ _ (⟨some 92,_,_,_,_,_⟩::_) _ _);refine wpList_load_mid rfl 30 _ rfl (w.heap.size+1) 0 rfl rb _ T.out.two.range Tryz.underlying30 rfl hb13.out ?_)
  | ((with_reducible show wpList _ _ _ (⟨some 93,_,_,_,_,_⟩::_) _ _);refine wpList_load_mid rfl 30 _ rfl (w.heap.size+1+1) 0 rfl rc _ T.out.res.range Tryz.underlying30 rfl hc13.out ?_))
 refine (ar_pl_t_p (textD b) (textD c) _ w.heap.size N rb rc T.out.below.size (by omega) (by omega) CB.out CC.out (textD_fits _) (textD_fits _) (show b.size+c.size≤N by omega) (Nat.zero_le _) (Nat.zero_le _) (show b.size+1≤N by omega) (tabs_below HTB.out T.out.below) (zero_cell HMZ.out T.out.below) (HBB.out _ _) (HCC.out _ _) rfl rfl).mono ?_
 rw [plus_tt CBC.out]
 rintro e wQ ⟨xQ,rfl,hsol,hb⟩
 have hx:=hsol.here
 have HQ:=Hd hx
 have hnQ:=Hd (show (Tryz.prog.info? 30).map (·.size)=some xQ.length by rw [hx.len];exact sizeV)
 have HLQ:=Hd hx.len
 have TN:=Hd ((T.out.later hb).later (belowBox wQ (.cells xQ.toArray 30)))
 have XQ:=Hd (RowT.new wQ 30 xQ)
 have XP:=Hd ((XP.out.then hb).then (belowBox wQ (.cells xQ.toArray 30)))
 clear hx hb hsol T
 have T:=TN
 clear TN
 dsimp only
 go_wp2_with (first
  | ((with_reducible show wpList _ _ _ (⟨none,.store 30 (.tmp 16) _,_,_,_,_⟩::_) _ _);refine wpList_store_new rfl 30 _ _ rfl zeroV xQ.toArray rfl rfl (row_size HLQ.out) (row_zero HLQ.out) (Go.all_oneCell_toArray HQ.out.oneCell) ?_)
  | ((with_reducible show wpList _ _ _ (⟨some 98,_,_,_,_,_⟩::_) _ _);refine wpList_load_mid rfl 30 _ rfl (wP.heap.size) 0 rfl xP _ XP.out.range Tryz.underlying30 rfl hnP.out ?_)
  | ((with_reducible show wpList _ _ _ (⟨some 99,_,_,_,_,_⟩::_) _ _);refine wpList_load_mid rfl 30 _ rfl (w.heap.size+1+1) 0 rfl rc _ T.out.res.range Tryz.underlying30 rfl hc13.out ?_))
 refine (ar_pl_t_p (textD (a++b)) (textD c) _ w.heap.size N xP rc T.out.below.size (by omega) (by omega) CAB.out CC.out (textD_fits _) (textD_fits _) (show (a++b).size+c.size≤N by rw [ByteArray.size_append];omega) (Nat.zero_le _) (Nat.zero_le _) (show (a++b).size+1≤N by rw [ByteArray.size_append];omega) (tabs_below HTB.out T.out.below) (zero_cell HMZ.out T.out.below) (textD_any HP.out _ _) (HCC.out _ _) rfl rfl).mono ?_
 rw [plus_tt CABC.out]
 rintro e wU ⟨xU,rfl,hsol,hb⟩
 have hx:=hsol.here
 have HU:=Hd hx
 have hnU:=Hd (show (Tryz.prog.info? 30).map (·.size)=some xU.length by rw [hx.len];exact sizeV)
 have HLU:=Hd hx.len
 have TN:=Hd ((T.out.later hb).later (belowBox wU (.cells xU.toArray 30)))
 have XU:=Hd (RowT.new wU 30 xU)
 have XP:=Hd ((XP.out.then hb).then (belowBox wU (.cells xU.toArray 30)))
 have XQ:=Hd ((XQ.out.then hb).then (belowBox wU (.cells xU.toArray 30)))
 clear hx hb hsol T
 have T:=TN
 clear TN
 dsimp only
 go_wp2_with (first
  | ((with_reducible show wpList _ _ _ (⟨none,.store 30 (.tmp 18) _,_,_,_,_⟩::_) _ _);refine wpList_store_new rfl 30 _ _ rfl zeroV xU.toArray rfl rfl (row_size HLU.out) (row_zero HLU.out) (Go.all_oneCell_toArray HU.out.oneCell) ?_)
  | ((with_reducible show wpList _ _ _ (⟨some 104,_,_,_,_,_⟩::_) _ _);refine wpList_load_mid rfl 30 _ rfl (w.heap.size) 0 rfl ra _ T.out.one.range Tryz.underlying30 rfl ha13.out ?_)
  | ((with_reducible show wpList _ _ _ (⟨some 105,_,_,_,_,_⟩::_) _ _);refine wpList_load_mid rfl 30 _ rfl (wQ.heap.size) 0 rfl xQ _ XQ.out.range Tryz.underlying30 rfl hnQ.out ?_))
 refine (ar_pl_t_p (textD a) (textD (b++c)) _ w.heap.size N ra xQ T.out.below.size (by omega) (by omega) CA.out CBC.out (textD_fits _) (textD_fits _) (show a.size+(b++c).size≤N by rw [ByteArray.size_append];omega) (Nat.zero_le _) (Nat.zero_le _) (show a.size+1≤N by omega) (tabs_below HTB.out T.out.below) (zero_cell HMZ.out T.out.below) (HAA.out _ _) (textD_any HQ.out _ _) rfl rfl).mono ?_
 rw [plus_tt (by rw [← ByteArray.append_assoc];exact CABC.out)]
 rintro e wV ⟨xV,rfl,hsol,hb⟩
 have hx:=hsol.here
 have HV:=Hd hx
 have hnV:=Hd (show (Tryz.prog.info? 30).map (·.size)=some xV.length by rw [hx.len];exact sizeV)
 have HLV:=Hd hx.len
 have TN:=Hd ((T.out.later hb).later (belowBox wV (.cells xV.toArray 30)))
 have XV:=Hd (RowT.new wV 30 xV)
 have XU:=Hd ((XU.out.then hb).then (belowBox wV (.cells xV.toArray 30)))
 clear hx hb hsol T
 have T:=TN
 clear TN
 dsimp only
 obtain ⟨_,_,_,_,_,_,hu⟩:=HU.out.has
 have cu:=XU.out.cell (show xU[9]?=some (.string (a++b++c)) from hu.text)
 have q1:a.size+b.size≤9223372036854775807:=by omega
 have q2:(a++b).size+c.size≤9223372036854775807:=by rw [ByteArray.size_append];omega
 clear hu
 go_wp2_with (first
  | ((with_reducible show wpList _ _ _ (⟨none,.store 30 (.tmp 20) _,_,_,_,_⟩::_) _ _);refine wpList_store_new rfl 30 _ _ rfl zeroV xV.toArray rfl rfl (row_size HLV.out) (row_zero HLV.out) (Go.all_oneCell_toArray HV.out.oneCell) ?_)
  | ((with_reducible show wpList _ _ _ (⟨some 126,_,_,_,_,_⟩::_) _ _);refine wpList_load_mid_g rfl 30 _ rfl (wU.heap.size) 0 rfl xU _ XU.out.range Tryz.underlying30 rfl hnU.out ?_)
  | ((with_reducible show wpList _ _ _ (⟨some 127,_,_,_,_,_⟩::_) _ _);refine wpList_load_mid_g rfl 30 _ rfl (wV.heap.size) 0 rfl xV _ XV.out.range Tryz.underlying30 rfl hnV.out ?_))
 refine (same_yes 1 (textD (a++b++c)) _ w.heap.size N xU xV (textD_fits _) (by omega) T.out.below.size (textD_any HU.out _ _) (by have h:=textD_any HV.out;rw [← ByteArray.append_assoc] at h;exact h _ _)).mono ?_
 rintro e wZ ⟨rfl,hb⟩
 have TZ:=Hd (T.out.later hb)
 clear hb
 go_wp2_with fail
 go_ret
 exact ⟨rfl,TZ.out.below⟩
end Go.Proofs.YtagkjofpncpcpaaGreatDoor
