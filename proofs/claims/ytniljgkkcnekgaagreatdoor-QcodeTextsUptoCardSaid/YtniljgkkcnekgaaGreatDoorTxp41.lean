/- qcode.Text (printed by gentxt.py). -/
import Derived.Test.YtniljgkkcnekgaaGreatDoorProg
import Derived.Test.YtniljgkkcnekgaaGreatDoorGA
import Derived.Test.YtniljgkkcnekgaaGreatDoorGB
import Derived.Test.YtniljgkkcnekgaaGreatDoorGD
import Derived.Test.YtniljgkkcnekgaaGreatDoorGC
import Derived.Test.YtniljgkkcnekgaaGreatDoorIN
import Derived.Test.YtniljgkkcnekgaaGreatDoorGZ
import Derived.Test.YtniljgkkcnekgaaGreatDoorSA
import Derived.Test.YtniljgkkcnekgaaGreatDoorSE
import Derived.Test.YtniljgkkcnekgaaGreatDoorBL
import Derived.Test.YtniljgkkcnekgaaGreatDoorCN
import Derived.Test.YtniljgkkcnekgaaGreatDoorWR
import Derived.Test.YtniljgkkcnekgaaGreatDoorNI
import Derived.Test.YtniljgkkcnekgaaGreatDoorCX
import Derived.Test.YtniljgkkcnekgaaGreatDoorCT
namespace Go.Proofs.YtniljgkkcnekgaaGreatDoor
namespace Stb
end Stb
open Go.RowKit Stb
theorem OwnC.keep {L:Nat} {w w':World} {v:Value} {xs:List Int} (h:OwnC L w v xs) (hs:w.heap.size≤w'.heap.size) (hb:∀ q,v.ownBlock=some q→w'.heap[q]?=w.heap[q]?):OwnC L w' v xs:=by
 obtain ⟨g,cap,rfl,h1,h2,h3,h4,h5,h6,h7⟩:=h
 have e:=hb g rfl
 exact ⟨g,cap,rfl,h1,Nat.lt_of_lt_of_le h2 hs,h3,h4,fun j hj=>by rw [World.cell?_of_block (a:=⟨g,j,none⟩) e];exact h5 j hj,fun j hj=>by rw [World.frozen?_of_block (a:=⟨g,j,none⟩) e];exact h6 j hj,fun j u hu=>by rw [World.cell?_of_block (a:=⟨g,j,none⟩) e];exact h7 j u hu⟩
structure St (L bx:Nat) (cs:List Value) (wb w:World) (v:Value) (xs:List Int):Prop where
 own:OwnC L w v xs
 below:Below L wb w
 row:RowT 41 w bx cs
 ne:v.ownBlock≠some bx
theorem St.then {L bx:Nat} {cs:List Value} {wb w w':World} {v:Value} {xs:List Int} (h:St L bx cs wb w v xs) (hL:L≤w.heap.size) (hb:Below w.heap.size w w'):St L bx cs wb w' v xs :=
 ⟨h.own.then hb,h.below.trans (hb.mono hL),h.row.then hb,h.ne⟩
theorem St.gr {L bx:Nat} {cs:List Value} {wb w w':World} {v v':Value} {xs ys:List Int} (h:St L bx cs wb w v xs) (ho:OwnC L w' v' ys) (hg:GrC w v w' v'):St L bx cs wb w' v' ys :=
 ⟨ho,⟨hg.by_.os.trans h.below.os,hg.by_.tape.trans h.below.tape,hg.by_.output.trans h.below.output,Nat.le_trans h.below.size hg.by_.size,fun q hq=>by
  by_cases hlt:q<w.heap.size
  ·exact (hg.by_.block q hlt (fun e=>by have:=(h.own.lt q e.symm).1;omega)).trans (h.below.block q hq)
  ·have h1:=h.below.block q hq
   by_cases hqb:q<wb.heap.size
   ·have:=h.below.size;omega
   ·exfalso;exact hlt (by
     have hLw:L≤w.heap.size:=by obtain ⟨g,cap,_,a1,a2,_⟩:=h.own;omega
     omega)⟩,(hg.by_.block bx h.row.lt (fun e=>h.ne e.symm)).trans h.row,fun e=>by
  rcases hg.at_ bx e with h1 | h1
  ·exact h.ne h1
  ·have:=h.row.lt;omega⟩
theorem St.le {L bx:Nat} {cs:List Value} {wb w:World} {v:Value} {xs:List Int} (h:St L bx cs wb w v xs):L≤w.heap.size:=by
 obtain ⟨g,cap,_,a1,a2,_⟩:=h.own;omega
theorem St.setRow {L bx bv:Nat} {cs:List Value} {wb w:World} {v:Value} {xs:List Int} (h:St L bx cs wb w v xs) (hb:L≤bv) (h1:bv≠bx) (h2:v.ownBlock≠some bv) (new:Array Value):St L bx cs wb (w.setRow bv new) v xs :=
 ⟨h.own.keep (by rw [setRow_size];exact Nat.le_refl _) (fun q hq=>setRow_other _ _ _ _ (fun e=>h2 (by rw [← e];exact hq))),below_setRow h.below hb new,h.row.setRowOther (fun e=>h1 e.symm) new,h.ne⟩
theorem cls41 {op:Int} (h:1≤op∧op≤30):(useA op=0∧useB op=0∧namO op=false∧op≠1)∨(useA op=0∧useB op=0∧namO op=false∧op=1)∨(useA op=0∧useB op=0∧namO op=true∧op≠1) ∨
 (useA op≠0∧useB op=0∧namO op=false∧op≠1)∨(useA op≠0∧useB op=0∧namO op=true∧op≠1)∨(useA op≠0∧useB op≠0∧namO op=false∧op≠1):=by
 rcases ops30 (op:=op) (by omega) with rfl | rfl | rfl | rfl | rfl | rfl | rfl | rfl | rfl | rfl | rfl | rfl | rfl | rfl | rfl | rfl | rfl | rfl | rfl | rfl | rfl | rfl | rfl | rfl | rfl | rfl | rfl | rfl | rfl | rfl<;>decide
theorem below_bytesC (w:World) (s:ByteArray):Below w.heap.size w (Lib.bytesWorld w 5 s):=by
 refine ⟨?_,?_,?_,by rw [Lib.bytesWorld_size];omega,fun q hq=>Lib.bytesWorld_at_old w 5 s q hq⟩
 all_goals (unfold Lib.bytesWorld World.freeze;rfl)
def zerT41:Array Value:=#[.int .i64 0,.int .i64 0,.int .i64 0,.string ⟨#[]⟩,.int .i64 0,.bool false,.bool false,.string ⟨#[]⟩,.int .i64 0,.int .i64 0,.int .i64 0,.int .i64 0,.int .i64 0,.string ⟨#[]⟩,.slice none 0 0,.slice none 0 0,.slice none 0 0]
theorem insRow41 {cs:List Value} (h:cs.length=17):(Tryz.prog.info? 41).map (·.size)=some cs.toArray.size:=by rw [List.size_toArray,h];exact sizeIns
theorem insZer41 {cs:List Value} (h:cs.length=17):zerT41.size=cs.toArray.size:=by show 17=_;rw [List.size_toArray,h]
theorem cell_at0 (w:World) (c:Int):(w.alloc (.cells #[.int .u8 c] 5)).cell? ((⟨w.heap.size,0,none⟩:Addr).add 0)=some (.int .u8 c):=by
 rw [add_zero]
 have h:=RowT.new w 5 [.int .u8 c]
 exact h.cell (j:=0) rfl
theorem g2_name {w:World} {B N:Nat} {x:InsD} {cs:List Value} (h:InsD.At w B N x cs):x.name.size≤N:=by
 obtain ⟨vs,_,h2,_⟩:=h
 exact h2
set_option maxRecDepth 100000 in
set_option maxHeartbeats 25600000 in
theorem text41_p (start:Int) (l:List InsD) (a:Option Addr) (c:Nat) (w:World) (N:Nat) (hN:N≤4294967296) (hl:l.length≤400) (hc:codeE start l=0) (hP:PowAt w) (h:InssAt w w.heap.size N l a) :
 Calls Tryz.prog 8 #[.agg #[.int .i64 start,.slice a l.length c]] w (StrB (strOfNums (headT start++linT l l.length)) w):=by
 obtain ⟨i0,hi0,hz0,hz1,hz2⟩:=info_parts infoU8
 have HI0:=Hd hi0
 have HZ0:=Hd hz0
 have HZ1:=Hd hz1
 have HZ2:=Hd hz2
 obtain ⟨⟨hs1,hs2⟩,hok⟩:=code_ok hl hc
 have HOK:=Hd hok
 have HLN:=Hd (linT_len hok hl)
 obtain ⟨n,hn⟩:∃ n,l.length=n:=⟨_,rfl⟩
 have HNL:=Hd hn
 rw [hn] at hl hs2 ⊢
 have HLS:=Hd h
 obtain ⟨wb,hwb⟩:∃ wb,wb=w.alloc (.cells #[.int .i64 start,.slice a n c] 24):=⟨_,rfl⟩
 have HWB:=Hd hwb
 have RB:=Hd (show RowT 24 wb w.heap.size (codeC start n a c) by rw [hwb];exact RowT.new w 24 (codeC start n a c))
 have HB1:=Hd (show Below w.heap.size w wb by rw [hwb];exact belowBox w _)
 have HSZ:=Hd (show wb.heap.size=w.heap.size+1 by rw [hwb,World.size_alloc])
 have HPB:=Hd (hP.then HB1.out)
 have e0:=RB.out.cell (j:=0) (v:=.int .i64 start) rfl
 rw [hwb] at e0
 have HHL:=Hd (headT_len hs1 (by omega))
 have hz:=itoS_size (n:=start) (by omega) (by omega)
 obtain ⟨t,ht⟩:∃ t,itoS start=t:=⟨_,rfl⟩
 have HIT:=Hd (fun u hu=>ht ▸ itoa_p start (by omega) (by omega) u hu)
 have HHD:=Hd (show nums (⟨#[115,116,97,114,116,32]⟩++t++⟨#[10]⟩)=headT start by rw [nums_app,nums_app,← ht];rfl)
 rw [ht] at hz
 have HZT:=Hd hz
 clear hP h hok hn hwb ht hc hi0 hz0 hz1 hz2 hs1 hs2
 go_enter Tryz.func8,Tryz.ntmps8
 go_wp2_with fail
 rw [← HWB.out]
 refine (HIT.out wb HPB.out).mono ?_
 rintro e w0 ⟨rfl,hb0⟩
 have R0:=Hd (RB.out.then hb0)
 have HB0:=Hd hb0
 have HW0:=Hd (show w.heap.size<w0.heap.size by have:=hb0.size;have:=HSZ.out;omega)
 obtain ⟨s0,hs0⟩:∃ s0,⟨#[115,116,97,114,116,32]⟩++t++⟨#[10]⟩=s0:=⟨_,rfl⟩
 have hs0z:s0.size≤4096:=by rw [← hs0];simp only [ByteArray.size_append];show 6+t.size+1≤4096;omega
 have CV:=Lib.run_convert_string_bytes w0 9 35 5 s0 Tryz.underlying9 Tryz.underlying35 Tryz.underlying5
 have q1:(⟨#[115,116,97,114,116,32]⟩:ByteArray).size+t.size≤9223372036854775807:=by show 6+t.size≤_;omega
 have q2:(⟨#[115,116,97,114,116,32]⟩++t:ByteArray).size+(⟨#[10]⟩:ByteArray).size≤9223372036854775807:=by rw [ByteArray.size_append];show 6+t.size+1≤_;omega
 have HHD2:=Hd (show nums s0=headT start by rw [← hs0];exact HHD.out)
 have e1:=Lib.bytesWorld_old w0 5 s0 ⟨w.heap.size,1,none⟩ HW0.out
 rw [R0.out.cell (j:=1) (v:=.slice a n c) rfl] at e1
 have OF:=Hd (own_bytes (L:=wb.heap.size) w0 s0 hb0.size hs0z)
 rw [HHD2.out] at OF
 have BF:=Hd (show Below wb.heap.size wb (Lib.bytesWorld w0 5 s0) from belowThen hb0 (below_bytesC _ _))
 have HS0:=Hd hs0
 clear hb0 hs0z e0 hz
 go_wp2_with fail
 go_simp
 obtain ⟨wf,hwf⟩:∃ wf,wf=Lib.bytesWorld w0 5 s0:=⟨_,rfl⟩
 rw [← hwf] at OF BF ⊢
 clear CV e1 hwf hs0 q1 q2
 generalize grownCap w0 s0.size 0 5=gc at *
 go_loopw [3,20] (fun u t wr=>∃ k:Nat,t=.int .i64 k∧k≤n∧Hid (OwnC wb.heap.size wr u (headT start++linT l k))∧Hid (Below wb.heap.size wb wr)) (fun _ t _=>n-(intOf t).toNat)
 case atStart=>exact ⟨0,rfl,by omega,Hd (by have h:=OF.out;rw [show headT start=headT start++linT l 0 by simp [linT]] at h;exact h),BF⟩
 case round =>
  clear OF BF
  obtain ⟨w1,rfl⟩:∃ w1,w1=wr:=⟨wr,rfl⟩
  obtain ⟨k,rfl,hk,HO1,HB1w⟩:=hrel
  by_cases hlt:k<n
  case neg =>
   have hke:k=n:=by omega
   have hconv:=HO1.out.conv
   subst hke
   go_wp2_with fail
   go_ret
   exact ⟨rfl,HB1.out.trans (HB1w.out.mono (by have:=HSZ.out;omega))⟩
  have hlt2:k<l.length:=by rw [HNL.out];exact hlt
  obtain ⟨g,oo,rfl,hgb,cs,g1,g2⟩:=HLS.out.get hlt2
  have HXS:=Hd (linT_s hlt2)
  have HXO:=Hd (HOK.out l[k] (List.getElem_mem hlt2))
  have HTL:=Hd (show (headT start++linT l k).length≤10800000000030 by have:=HLN.out k (by omega);have:=HHL.out;rw [List.length_append];omega)
  obtain ⟨x,hx⟩:∃ x,l[k]=x:=⟨_,rfl⟩
  rw [hx] at g2 HXS HXO
  obtain ⟨T,hT⟩:∃ T,headT start++linT l k=T:=⟨_,rfl⟩
  rw [hT] at HO1 HTL
  have HFIN:=Hd (show headT start++linT l (k+1)=T++lineT k x by rw [HXS.out,← hT,List.append_assoc])
  have hh0:Below w.heap.size w w1:=HB1.out.trans (HB1w.out.mono (by have:=HSZ.out;omega))
  have HR:=Hd (g1.below hh0 hgb).range
  obtain ⟨vs,hh⟩:=g2.has
  have HVAL:=Hd (show ∀ u,Below wb.heap.size wb u→ValD.At u w.heap.size N x.val vs from fun u hu=>(hh.val.below HB1.out).below (hu.mono (by have:=HSZ.out;omega)))
  have HBW:=Hd (show ∀ u,Below wb.heap.size wb u→w.heap.size≤u.heap.size from fun u hu=>by have:=hu.size;have:=HSZ.out;omega)
  have Z0:=Hd hh.op
  have Z1:=Hd hh.a
  have Z2:=Hd hh.b
  have Z3:=Hd hh.name
  have HNM:=Hd (show x.name.size≤N from g2_name g2)
  have HCV:=Hd (hh.cells)
  have hlv:=Hd hh.val.len
  have hiv:=Hd (show (Tryz.prog.info? 39).map (·.size)=some vs.length by rw [hlv.out];exact sizeV)
  have hii:=Hd (show (Tryz.prog.info? 41).map (·.size)=some cs.length by rw [g2.len];exact sizeIns)
  have hii2:=Hd (insRow41 g2.len)
  have hii3:=Hd (insZer41 g2.len)
  have hii4:=Hd (Go.all_oneCell_toArray g2.oneCell)
  have hvo:=Hd (Go.all_oneCell_toArray hh.val.oneCell)
  obtain ⟨wx,hwx⟩:∃ wx,wx=w1.alloc (.cells cs.toArray 41):=⟨_,rfl⟩
  have HWX:=Hd hwx
  have SX:=Hd (show St wb.heap.size w1.heap.size cs wb wx u3 T from by rw [hwx];exact ⟨HO1.out.then (belowBox w1 _),belowThen HB1w.out (belowBox w1 _),RowT.new w1 41 cs,fun e=>by have:=(HO1.out.lt _ e).2;omega⟩)
  obtain ⟨on,hon⟩:=Int.eq_ofNat_of_zero_le (show 0≤x.op by have:=HXO.out.op;omega)
  have hon31:on<31:=by have:=HXO.out.op;omega
  have H30:=Hd (show ¬ ((on:Int)<1∨30<(on:Int)) by have:=HXO.out.op;omega)
  have HCL:=Hd (cls41 HXO.out.op)
  rw [hon] at Z0 HCL
  have HON:=Hd hon
  have hzk:=itoS_size (n:=(k:Int)) (by omega) (by omega)
  have hzw:=wordB_size on
  have hza:=itoS_size (n:=x.a) (by have:=HXO.out.a;omega) (by have:=HXO.out.a;omega)
  have hzb:=itoS_size (n:=x.b) (by have:=HXO.out.b;omega) (by have:=HXO.out.b;omega)
  have HIA:=Hd (fun u hu=>itoa_p x.a (by have:=HXO.out.a;omega) (by have:=HXO.out.a;omega) u hu)
  have HIB:=Hd (fun u hu=>itoa_p x.b (by have:=HXO.out.b;omega) (by have:=HXO.out.b;omega) u hu)
  have HIK:=Hd (fun u hu=>itoa_p (k:Int) (by omega) (by omega) u hu)
  have HOP:=Hd (fun u=>operators_p on hon31 u)
  have HPW:=Hd (show ∀ u,Below wb.heap.size wb u→PowAt u from fun u hu=>HPB.out.then hu)
  have HLI:=Hd (show lineT k x=nums (itoS k)++[58,32]++nums (wordB on)++argT (useA on) x.a++argT (useB on) x.b++namT x++valT x++[10] by unfold lineT;rw [hon];rfl)
  obtain ⟨ka,hka⟩:∃ ka,itoS (k:Int)=ka:=⟨_,rfl⟩
  obtain ⟨kw,hkw⟩:∃ kw,wordB on=kw:=⟨_,rfl⟩
  obtain ⟨aa,haa⟩:∃ aa,itoS x.a=aa:=⟨_,rfl⟩
  obtain ⟨ba,hba⟩:∃ ba,itoS x.b=ba:=⟨_,rfl⟩
  rw [hka,hkw] at HLI
  rw [hka] at hzk HIK
  rw [hkw] at hzw HOP
  rw [haa] at hza HIA
  rw [hba] at hzb HIB
  have HAA:=Hd haa
  have HBA:=Hd hba
  obtain ⟨ua,hua⟩:∃ ua,useA (on:Int)=ua:=⟨_,rfl⟩
  obtain ⟨ub,hub⟩:∃ ub,useB (on:Int)=ub:=⟨_,rfl⟩
  rw [hua,hub] at HCL HLI
  have HUA:=Hd hua
  have HUB:=Hd hub
  have n1:=Hd (show nums ⟨#[58,32]⟩=[58,32] from rfl)
  have n2:=Hd (show nums ⟨#[32]⟩=[32] from rfl)
  clear g1 g2 hh hh0 hx hT hwx hon hka hkw haa hba hua hub hlt2
  go_wp2_with (first
   | ((with_reducible show wpList _ _ _ (⟨some 24,_,_,_,_,_⟩::_) _ _);refine wpList_load_mid rfl 41 _ rfl g (oo+k * 17) rfl cs _ HR.out Tryz.underlying41 rfl hii.out ?_)
   | ((with_reducible show wpList _ _ _ (⟨none,.store 41 (.tmp 5) (.tmp 24),_,_,_,_⟩::_) _ _);refine wpList_store_new rfl 41 _ _ rfl zerT41 cs.toArray rfl rfl hii2.out hii3.out hii4.out ?_))
  rw [← HWX.out]
  refine wp_region_held_drew (S:=fun u=>RowT 41 u w1.heap.size cs) (by kernel_rfl) SX.out.row.drew (fun hHeld=>?_)
  refine' tk 0 (u3) rfl rfl (.inl ⟨by rfl,fun u hu=>(by go_simp)⟩) hHeld ?_
  simp only [sq1,sq0]
  refine' tk 1 (.int .i64 k) rfl rfl (.inl ⟨by rfl,fun u hu=>(by go_simp)⟩) hHeld ?_
  simp only [sq1,sq0]
  refine' tk 4 (.pointer (some ⟨w1.heap.size,0,none⟩)) rfl rfl (.inl ⟨by rfl,fun u hu=>(by go_simp)⟩) hHeld ?_
  simp only [sq1,sq0]
  refine' tk 5 (.int .i64 on) rfl rfl (.inl ⟨by rfl,fun u hu=>(by have hc:=RowT.cell hu Z0.out;go_simp)⟩) hHeld ?_
  simp only [sq1,sq0]
  have SD:=Hd (SX.out.then SX.out.le (drewU wx))
  refine rd1 2 rfl (fun K hK=>?_)
  go_simp
  refine (HIK.out _ (HPW.out _ SD.out.below)).mono ?_
  rintro e w2 ⟨rfl,hbC⟩
  have S2:=Hd (SD.out.then SD.out.le hbC)
  refine hK.out _ _ S2.out.row (fun hHeld1=>?_)
  clear hK K hbC hHeld
  have hHeld:=hHeld1
  clear hHeld1
  refine' tk 3 (.string (ka++⟨#[58,32]⟩)) rfl rfl (.inl ⟨by rfl,fun u hu=>(by go_simp;all_goals omega)⟩) hHeld ?_
  simp only [sq1,sq0]
  refine rd1 6 rfl (fun K hK=>?_)
  go_simp
  refine (HOP.out _).mono ?_
  rintro e w3 ⟨rfl,hbC⟩
  have S3:=Hd (S2.out.then S2.out.le hbC)
  refine hK.out _ _ S3.out.row (fun hHeld1=>?_)
  clear hK K hbC hHeld
  have hHeld:=hHeld1
  clear hHeld1
  refine' tk 7 (.string (ka++⟨#[58,32]⟩++kw)) rfl rfl (.inl ⟨by rfl,fun u hu=>(by go_simp;all_goals omega)⟩) hHeld ?_
  simp only [sq1,sq0]
  refine rd1 8 rfl (fun K hK=>?_)
  rw [if_pos (by rfl)]
  refine wp_strC (.tmp 25) (.tmp 32) rfl wb.heap.size i0 HI0.out HZ0.out HZ1.out HZ2.out w3 u3 T rfl S3.out.own (ka++⟨#[58,32]⟩++kw) rfl (by have:=HTL.out;simp only [ByteArray.size_append];show T.length+(ka.size+2+kw.size)≤_;omega) S3.out.le ?_
  intro v4 w4 ho4 hg4
  have S4:=Hd (S3.out.gr ho4 hg4)
  refine hK.out _ _ S4.out.row (fun hHeld1=>?_)
  clear hK K hHeld ho4 hg4
  have hHeld:=hHeld1
  clear hHeld1
  refine rd1 9 rfl (fun K hK=>?_)
  go_simp
  refine hK.out _ _ hHeld (fun hHeldx=>?_)
  clear hK K hHeldx hHeld
  refine wpAnyH_done (by kernel_rfl) ?_ _
  have f0:=S4.out.row.cell Z0.out
  have f1:=S4.out.row.cell Z1.out
  have f2:=S4.out.row.cell Z2.out
  have HT4:=Hd (show (T++nums (ka++⟨#[58,32]⟩++kw)).length≤10800000000100 by have:=HTL.out;rw [List.length_append,nums_length];simp only [ByteArray.size_append];show T.length+(ka.size+2+kw.size)≤_;omega)
  go_wp2_with fail
  refine (uses_prog (on:Int) w4 H30.out).mono ?_
  rw [HUA.out,HUB.out]
  rintro e w' ⟨rfl,hww⟩
  replace hww:=hww.symm
  subst hww
  rcases HCL.out with hcl | hcl | hcl | hcl | hcl | hcl
  ·obtain ⟨c1,c2,c3,c4⟩:=hcl
   have t1:(ua != 0)=false:=by simp [c1]
   have t2:(ub != 0)=false:=by simp [c2]
   have t3:((on:Int)==1)=false:=by simpa using c4
   have HC3:=Hd c3
   have HC4:=Hd c4
   have HL2:=Hd (show lineT k x=nums ka++[58,32]++nums kw++[]++[]++[]++[]++[10] by rw [HLI.out];unfold argT namT valT;rw [HON.out,if_pos c1,if_pos c2,if_neg (by rw [c3];decide),if_neg c4])
   clear c2 c3 c4
   clear c1
   go_wp2_with (first
    | ((with_reducible show wpList _ _ _ (⟨some 57,_,_,_,_,_⟩::_) _ _);refine wpList_load_mid rfl 39 _ rfl w1.heap.size 4 rfl vs _ (HCV.out _ _ _ S4.out.row.cells).range Tryz.underlying39 rfl hiv.out ?_)
    | ((with_reducible show wpList _ _ _ (⟨none,.store 39 (.tmp 8) (.tmp 57),_,_,_,_⟩::_) _ _);refine wpList_store_new rfl 39 _ _ rfl zeroV vs.toArray rfl rfl (row_size13 hlv.out) (row_zero13 hlv.out) hvo.out ?_
       have f9:=(S4.out.then S4.out.le (belowBox w4 (.cells vs.toArray 39))).row.cell Z0.out))
   obtain ⟨wv,hwv⟩:∃ wv,wv=w4.alloc (.cells vs.toArray 39):=⟨_,rfl⟩
   have SV:=Hd (show St wb.heap.size w1.heap.size cs wb wv v4 _ by rw [hwv];exact S4.out.then S4.out.le (belowBox _ _))
   have RV:=Hd (show RowT 39 wv w4.heap.size vs by rw [hwv];exact RowT.new w4 39 vs)
   have HNV:=Hd (show v4.ownBlock≠some w4.heap.size from fun e=>by have:=(S4.out.own.lt _ e).2;omega)
   have HNX:=Hd (show w4.heap.size≠w1.heap.size by have:=S4.out.row.lt;omega)
   have HLV:=Hd S4.out.le
   rw [← hwv]
   clear hwv f9 f0 f1 f2
   have f0:=SV.out.row.cell Z0.out
   have f3:=SV.out.row.cell Z3.out
   refine (named_prog (on:Int) wv H30.out).mono ?_
   rw [HC3.out]
   rintro e w' ⟨rfl,hww⟩
   replace hww:=hww.symm
   subst hww
   go_wp2_with fail
   refine (named_prog (on:Int) wv H30.out).mono ?_
   rw [HC3.out]
   rintro e w' ⟨rfl,hww⟩
   replace hww:=hww.symm
   subst hww
   go_wp2_with (first
    | ((with_reducible show wpList _ _ _ (⟨some 83,_,_,_,_,_⟩::_) _ _);refine wpList_oneC rfl (.tmp 81) (.tmp 82) rfl wb.heap.size i0 HI0.out HZ0.out HZ1.out HZ2.out _ v4 _ rfl (SV.out.own.then (belowBox wv (.cells #[.int .u8 10] 5))) 10 ⟨wv.heap.size,0,none⟩ rfl (cell_at0 _ _) (by have:=HT4.out;omega) (by rw [World.size_alloc];have:=SV.out.le;omega) ?_
       intro v99 w99 ho hg
       have S99:=Hd ((SV.out.then SV.out.le (belowBox wv (.cells #[.int .u8 10] 5))).gr ho hg)
       clear ho hg))
   have HQ:=Hd (show (T++nums (ka++⟨#[58,32]⟩++kw))++[10]=headT start++linT l (k+1) by rw [HFIN.out,HL2.out];simp only [nums_app,n1.out,List.append_assoc,List.cons_append,List.nil_append])
   have HOQ:=S99.out.own
   rw [HQ.out] at HOQ
   have HOR:=Hd HOQ
   clear HOQ
   go_roundw
   case rel=>exact ⟨k+1,by go_num,by omega,HOR,Hd S99.out.below⟩
   case measure=>simp [intOf];omega
  ·obtain ⟨c1,c2,c3,c4⟩:=hcl
   have t1:(ua != 0)=false:=by simp [c1]
   have t2:(ub != 0)=false:=by simp [c2]
   have t3:((on:Int)==1)=true:=by simpa using c4
   have HC3:=Hd c3
   have HC4:=Hd c4
   have HL2:=Hd (show lineT k x=nums ka++[58,32]++nums kw++[]++[]++[]++(32::canC 48 x.val)++[10] by rw [HLI.out];unfold argT namT valT;rw [HON.out,if_pos c1,if_pos c2,if_neg (by rw [c3];decide),if_pos c4])
   clear c2 c3 c4
   clear c1
   go_wp2_with (first
    | ((with_reducible show wpList _ _ _ (⟨some 57,_,_,_,_,_⟩::_) _ _);refine wpList_load_mid rfl 39 _ rfl w1.heap.size 4 rfl vs _ (HCV.out _ _ _ S4.out.row.cells).range Tryz.underlying39 rfl hiv.out ?_)
    | ((with_reducible show wpList _ _ _ (⟨none,.store 39 (.tmp 8) (.tmp 57),_,_,_,_⟩::_) _ _);refine wpList_store_new rfl 39 _ _ rfl zeroV vs.toArray rfl rfl (row_size13 hlv.out) (row_zero13 hlv.out) hvo.out ?_
       have f9:=(S4.out.then S4.out.le (belowBox w4 (.cells vs.toArray 39))).row.cell Z0.out))
   obtain ⟨wv,hwv⟩:∃ wv,wv=w4.alloc (.cells vs.toArray 39):=⟨_,rfl⟩
   have SV:=Hd (show St wb.heap.size w1.heap.size cs wb wv v4 _ by rw [hwv];exact S4.out.then S4.out.le (belowBox _ _))
   have RV:=Hd (show RowT 39 wv w4.heap.size vs by rw [hwv];exact RowT.new w4 39 vs)
   have HNV:=Hd (show v4.ownBlock≠some w4.heap.size from fun e=>by have:=(S4.out.own.lt _ e).2;omega)
   have HNX:=Hd (show w4.heap.size≠w1.heap.size by have:=S4.out.row.lt;omega)
   have HLV:=Hd S4.out.le
   rw [← hwv]
   clear hwv f9 f0 f1 f2
   have f0:=SV.out.row.cell Z0.out
   have f3:=SV.out.row.cell Z3.out
   refine (named_prog (on:Int) wv H30.out).mono ?_
   rw [HC3.out]
   rintro e w' ⟨rfl,hww⟩
   replace hww:=hww.symm
   subst hww
   go_wp2_with fail
   refine (named_prog (on:Int) wv H30.out).mono ?_
   rw [HC3.out]
   rintro e w' ⟨rfl,hww⟩
   replace hww:=hww.symm
   subst hww
   have hir:=Hd (show (Tryz.prog.info? 39).map (·.size)=some vs.length by exact hiv.out)
   go_wp2_with ((with_reducible show wpList _ _ _ (⟨some 73,_,_,_,_,_⟩::_) _ _);refine wpList_load_mid rfl 39 _ rfl w4.heap.size 0 rfl vs _ RV.out.range Tryz.underlying39 rfl hir.out ?_)
   refine (cText_p x.val (HXO.out.val (by rw [HON.out];exact HC4.out)) wv w.heap.size N vs hN (HBW.out _ SV.out.below) (HVAL.out _ SV.out.below)).mono ?_
   rintro e wz ⟨rfl,hbC⟩
   have SZ:=Hd (SV.out.then SV.out.le hbC)
   clear hbC f0 f3
   have HZL:=Hd (show (strOfNums (canC 48 x.val)).size≤26870000000 by rw [strOfNums_size];exact val_len HXO.out (by rw [HON.out];exact HC4.out))
   have HZN:=Hd (show nums (strOfNums (canC 48 x.val))=canC 48 x.val from nums_strOf (canC_range _ _))
   obtain ⟨zs,hzs⟩:∃ zs,strOfNums (canC 48 x.val)=zs:=⟨_,rfl⟩
   rw [hzs] at HZL HZN ⊢
   clear hzs
   have hzl:=HZL.out
   have HZ14:=Hd (show (⟨#[32]⟩++zs:ByteArray).size≤26870000001 by rw [ByteArray.size_append];show 1+zs.size≤_;omega)
   have q9:(⟨#[32]⟩:ByteArray).size+zs.size≤9223372036854775807:=by show 1+zs.size≤_;omega
   clear hzl
   go_wp2_with (first
    | ((with_reducible show wpList _ _ _ (⟨some 80,_,_,_,_,_⟩::_) _ _);refine wpList_strC rfl (.tmp 77) (.tmp 79) rfl wb.heap.size i0 HI0.out HZ0.out HZ1.out HZ2.out wz v4 _ rfl SZ.out.own (⟨#[32]⟩++zs) rfl (by have:=HT4.out;have:=HZ14.out;omega) SZ.out.le ?_
       intro v14 w14 ho hg
       have S14:=Hd (SZ.out.gr ho hg)
       have HT14:=Hd (show ((T++nums (ka++⟨#[58,32]⟩++kw))++nums (⟨#[32]⟩++zs)).length≤10826870000110 from by have:=HT4.out;have:=HZ14.out;rw [List.length_append,nums_length];omega)
       clear ho hg)
    | ((with_reducible show wpList _ _ _ (⟨some 83,_,_,_,_,_⟩::_) _ _);refine wpList_oneC rfl (.tmp 81) (.tmp 82) rfl wb.heap.size i0 HI0.out HZ0.out HZ1.out HZ2.out _ v14 _ rfl (S14.out.own.then (belowBox w14 (.cells #[.int .u8 10] 5))) 10 ⟨w14.heap.size,0,none⟩ rfl (cell_at0 _ _) (by have:=HT14.out;omega) (by rw [World.size_alloc];have:=S14.out.le;omega) ?_
       intro v99 w99 ho hg
       have S99:=Hd ((S14.out.then S14.out.le (belowBox w14 (.cells #[.int .u8 10] 5))).gr ho hg)
       clear ho hg))
   have HQ:=Hd (show ((T++nums (ka++⟨#[58,32]⟩++kw))++nums (⟨#[32]⟩++zs))++[10]=headT start++linT l (k+1) by rw [HFIN.out,HL2.out];simp only [nums_app,n1.out,n2.out,HZN.out,List.append_assoc,List.cons_append,List.nil_append])
   have HOQ:=S99.out.own
   rw [HQ.out] at HOQ
   have HOR:=Hd HOQ
   clear HOQ
   go_roundw
   case rel=>exact ⟨k+1,by go_num,by omega,HOR,Hd S99.out.below⟩
   case measure=>simp [intOf];omega
  ·obtain ⟨c1,c2,c3,c4⟩:=hcl
   have t1:(ua != 0)=false:=by simp [c1]
   have t2:(ub != 0)=false:=by simp [c2]
   have t3:((on:Int)==1)=false:=by simpa using c4
   have HC3:=Hd c3
   have HC4:=Hd c4
   have HL2:=Hd (show lineT k x=nums ka++[58,32]++nums kw++[]++[]++(32::quoI x.name)++[]++[10] by rw [HLI.out];unfold argT namT valT;rw [HON.out,if_pos c1,if_pos c2,if_pos c3,if_neg c4])
   clear c2 c3 c4
   clear c1
   go_wp2_with (first
    | ((with_reducible show wpList _ _ _ (⟨some 57,_,_,_,_,_⟩::_) _ _);refine wpList_load_mid rfl 39 _ rfl w1.heap.size 4 rfl vs _ (HCV.out _ _ _ S4.out.row.cells).range Tryz.underlying39 rfl hiv.out ?_)
    | ((with_reducible show wpList _ _ _ (⟨none,.store 39 (.tmp 8) (.tmp 57),_,_,_,_⟩::_) _ _);refine wpList_store_new rfl 39 _ _ rfl zeroV vs.toArray rfl rfl (row_size13 hlv.out) (row_zero13 hlv.out) hvo.out ?_
       have f9:=(S4.out.then S4.out.le (belowBox w4 (.cells vs.toArray 39))).row.cell Z0.out))
   obtain ⟨wv,hwv⟩:∃ wv,wv=w4.alloc (.cells vs.toArray 39):=⟨_,rfl⟩
   have SV:=Hd (show St wb.heap.size w1.heap.size cs wb wv v4 _ by rw [hwv];exact S4.out.then S4.out.le (belowBox _ _))
   have RV:=Hd (show RowT 39 wv w4.heap.size vs by rw [hwv];exact RowT.new w4 39 vs)
   have HNV:=Hd (show v4.ownBlock≠some w4.heap.size from fun e=>by have:=(S4.out.own.lt _ e).2;omega)
   have HNX:=Hd (show w4.heap.size≠w1.heap.size by have:=S4.out.row.lt;omega)
   have HLV:=Hd S4.out.le
   rw [← hwv]
   clear hwv f9 f0 f1 f2
   have f0:=SV.out.row.cell Z0.out
   have f3:=SV.out.row.cell Z3.out
   refine (named_prog (on:Int) wv H30.out).mono ?_
   rw [HC3.out]
   rintro e w' ⟨rfl,hww⟩
   replace hww:=hww.symm
   subst hww
   have ht3:=Hd (show vs.toArray.size=(txtR x.name).toArray.size by rw [List.size_toArray,hlv.out];rfl)
   have ht4:=Hd (Go.all_oneCell_toArray (txtR_at x.name wv w.heap.size N HNM.out).oneCell)
   go_wp2_with fail
   refine (vtext_p x.name wv).mono ?_
   rintro e wt ⟨rfl,hbC⟩
   have ST:=Hd (SV.out.then SV.out.le hbC)
   have RT:=Hd (RV.out.then hbC)
   clear hbC f0 f3
   have SU:=Hd (ST.out.setRow HLV.out HNX.out HNV.out (txtR x.name).toArray)
   have RU:=Hd (RT.out.setRow (txtR x.name))
   have f0:=SU.out.row.cell Z0.out
   go_wp2_with ((with_reducible show wpList _ _ _ (⟨none,.store 39 (.tmp 8) (.tmp 63),_,_,_,_⟩::_) _ _);refine wpList_store_row rfl 39 _ _ rfl w4.heap.size (txtR x.name).toArray rfl rfl 39 vs.toArray RT.out (row_size13 rfl) ht3.out ht4.out ?_)
   obtain ⟨wu,hwu⟩:∃ wu,wu=wt.setRow w4.heap.size (txtR x.name).toArray:=⟨_,rfl⟩
   rw [← hwu] at SU RU f0 ⊢
   clear hwu
   refine (named_prog (on:Int) wu H30.out).mono ?_
   rw [HC3.out]
   rintro e w' ⟨rfl,hww⟩
   replace hww:=hww.symm
   subst hww
   have hir:=Hd (show (Tryz.prog.info? 39).map (·.size)=some (txtR x.name).length by exact sizeV)
   go_wp2_with ((with_reducible show wpList _ _ _ (⟨some 73,_,_,_,_,_⟩::_) _ _);refine wpList_load_mid rfl 39 _ rfl w4.heap.size 0 rfl (txtR x.name) _ RU.out.range Tryz.underlying39 rfl hir.out ?_)
   refine (cText_p (txtV x.name) (txtV_chk (HXO.out.name (by rw [HON.out];exact HC3.out)).1 (HXO.out.name (by rw [HON.out];exact HC3.out)).2) wu w.heap.size N (txtR x.name) hN (HBW.out _ SU.out.below) (txtR_at x.name _ _ _ HNM.out)).mono ?_
   rintro e wz ⟨rfl,hbC⟩
   rw [txtV_can]
   have SZ:=Hd (SU.out.then SU.out.le hbC)
   clear hbC f0
   have HZL:=Hd (show (strOfNums (quoI x.name)).size≤6150 by rw [strOfNums_size];have h1:=quoI_len x.name;have h2:=(HXO.out.name (by rw [HON.out];exact HC3.out)).2;omega)
   have HZN:=Hd (show nums (strOfNums (quoI x.name))=quoI x.name from nums_strOf (quoI_range _))
   obtain ⟨zs,hzs⟩:∃ zs,strOfNums (quoI x.name)=zs:=⟨_,rfl⟩
   rw [hzs] at HZL HZN ⊢
   clear hzs
   have hzl:=HZL.out
   have HZ14:=Hd (show (⟨#[32]⟩++zs:ByteArray).size≤6151 by rw [ByteArray.size_append];show 1+zs.size≤_;omega)
   have q9:(⟨#[32]⟩:ByteArray).size+zs.size≤9223372036854775807:=by show 1+zs.size≤_;omega
   clear hzl
   go_wp2_with (first
    | ((with_reducible show wpList _ _ _ (⟨some 80,_,_,_,_,_⟩::_) _ _);refine wpList_strC rfl (.tmp 77) (.tmp 79) rfl wb.heap.size i0 HI0.out HZ0.out HZ1.out HZ2.out wz v4 _ rfl SZ.out.own (⟨#[32]⟩++zs) rfl (by have:=HT4.out;have:=HZ14.out;omega) SZ.out.le ?_
       intro v14 w14 ho hg
       have S14:=Hd (SZ.out.gr ho hg)
       have HT14:=Hd (show ((T++nums (ka++⟨#[58,32]⟩++kw))++nums (⟨#[32]⟩++zs)).length≤10800000006260 from by have:=HT4.out;have:=HZ14.out;rw [List.length_append,nums_length];omega)
       clear ho hg)
    | ((with_reducible show wpList _ _ _ (⟨some 83,_,_,_,_,_⟩::_) _ _);refine wpList_oneC rfl (.tmp 81) (.tmp 82) rfl wb.heap.size i0 HI0.out HZ0.out HZ1.out HZ2.out _ v14 _ rfl (S14.out.own.then (belowBox w14 (.cells #[.int .u8 10] 5))) 10 ⟨w14.heap.size,0,none⟩ rfl (cell_at0 _ _) (by have:=HT14.out;omega) (by rw [World.size_alloc];have:=S14.out.le;omega) ?_
       intro v99 w99 ho hg
       have S99:=Hd ((S14.out.then S14.out.le (belowBox w14 (.cells #[.int .u8 10] 5))).gr ho hg)
       clear ho hg))
   have HQ:=Hd (show ((T++nums (ka++⟨#[58,32]⟩++kw))++nums (⟨#[32]⟩++zs))++[10]=headT start++linT l (k+1) by rw [HFIN.out,HL2.out];simp only [nums_app,n1.out,n2.out,HZN.out,List.append_assoc,List.cons_append,List.nil_append])
   have HOQ:=S99.out.own
   rw [HQ.out] at HOQ
   have HOR:=Hd HOQ
   clear HOQ
   go_roundw
   case rel=>exact ⟨k+1,by go_num,by omega,HOR,Hd S99.out.below⟩
   case measure=>simp [intOf];omega
  ·obtain ⟨c1,c2,c3,c4⟩:=hcl
   have t1:(ua != 0)=true:=by simpa using c1
   have t2:(ub != 0)=false:=by simp [c2]
   have t3:((on:Int)==1)=false:=by simpa using c4
   have HC3:=Hd c3
   have HC4:=Hd c4
   have HL2:=Hd (show lineT k x=nums ka++[58,32]++nums kw++(32::nums aa)++[]++[]++[]++[10] by rw [HLI.out];unfold argT namT valT;rw [HON.out,if_neg c1,HAA.out,if_pos c2,if_neg (by rw [c3];decide),if_neg c4])
   clear c2 c3 c4
   clear c1
   go_wp2_with fail
   refine (HIA.out w4 (HPW.out _ S4.out.below)).mono ?_
   rintro e w5 ⟨rfl,hbC⟩
   have S5:=Hd (S4.out.then S4.out.le hbC)
   clear hbC
   have HZ6:=Hd (show (⟨#[32]⟩++aa:ByteArray).size≤21 by rw [ByteArray.size_append];show 1+aa.size≤21;omega)
   clear f0 f1 f2
   go_wp2_with (first
    | ((with_reducible show wpList _ _ _ (⟨some 47,_,_,_,_,_⟩::_) _ _);refine wpList_strC rfl (.tmp 42) (.tmp 46) rfl wb.heap.size i0 HI0.out HZ0.out HZ1.out HZ2.out w5 v4 _ rfl S5.out.own (⟨#[32]⟩++aa) rfl (by have:=HT4.out;have:=HZ6.out;omega) S5.out.le ?_
       intro v6 w6 ho hg
       have S6:=Hd (S5.out.gr ho hg)
       have HT6:=Hd (show ((T++nums (ka++⟨#[58,32]⟩++kw))++nums (⟨#[32]⟩++aa)).length≤10800000000130 from by have:=HT4.out;have:=HZ6.out;rw [List.length_append,nums_length];omega)
       have f0:=S6.out.row.cell Z0.out
       have f1:=S6.out.row.cell Z1.out
       have f2:=S6.out.row.cell Z2.out
       clear ho hg)
    | ((with_reducible show wpList _ _ _ (⟨some 57,_,_,_,_,_⟩::_) _ _);refine wpList_load_mid rfl 39 _ rfl w1.heap.size 4 rfl vs _ (HCV.out _ _ _ S6.out.row.cells).range Tryz.underlying39 rfl hiv.out ?_)
    | ((with_reducible show wpList _ _ _ (⟨none,.store 39 (.tmp 8) (.tmp 57),_,_,_,_⟩::_) _ _);refine wpList_store_new rfl 39 _ _ rfl zeroV vs.toArray rfl rfl (row_size13 hlv.out) (row_zero13 hlv.out) hvo.out ?_
       have f9:=(S6.out.then S6.out.le (belowBox w6 (.cells vs.toArray 39))).row.cell Z0.out))
   obtain ⟨wv,hwv⟩:∃ wv,wv=w6.alloc (.cells vs.toArray 39):=⟨_,rfl⟩
   have SV:=Hd (show St wb.heap.size w1.heap.size cs wb wv v6 _ by rw [hwv];exact S6.out.then S6.out.le (belowBox _ _))
   have RV:=Hd (show RowT 39 wv w6.heap.size vs by rw [hwv];exact RowT.new w6 39 vs)
   have HNV:=Hd (show v6.ownBlock≠some w6.heap.size from fun e=>by have:=(S6.out.own.lt _ e).2;omega)
   have HNX:=Hd (show w6.heap.size≠w1.heap.size by have:=S6.out.row.lt;omega)
   have HLV:=Hd S6.out.le
   rw [← hwv]
   clear hwv f9
   clear f0 f1 f2
   have f0:=SV.out.row.cell Z0.out
   have f3:=SV.out.row.cell Z3.out
   refine (named_prog (on:Int) wv H30.out).mono ?_
   rw [HC3.out]
   rintro e w' ⟨rfl,hww⟩
   replace hww:=hww.symm
   subst hww
   go_wp2_with fail
   refine (named_prog (on:Int) wv H30.out).mono ?_
   rw [HC3.out]
   rintro e w' ⟨rfl,hww⟩
   replace hww:=hww.symm
   subst hww
   go_wp2_with (first
    | ((with_reducible show wpList _ _ _ (⟨some 83,_,_,_,_,_⟩::_) _ _);refine wpList_oneC rfl (.tmp 81) (.tmp 82) rfl wb.heap.size i0 HI0.out HZ0.out HZ1.out HZ2.out _ v6 _ rfl (SV.out.own.then (belowBox wv (.cells #[.int .u8 10] 5))) 10 ⟨wv.heap.size,0,none⟩ rfl (cell_at0 _ _) (by have:=HT6.out;omega) (by rw [World.size_alloc];have:=SV.out.le;omega) ?_
       intro v99 w99 ho hg
       have S99:=Hd ((SV.out.then SV.out.le (belowBox wv (.cells #[.int .u8 10] 5))).gr ho hg)
       clear ho hg))
   have HQ:=Hd (show ((T++nums (ka++⟨#[58,32]⟩++kw))++nums (⟨#[32]⟩++aa))++[10]=headT start++linT l (k+1) by rw [HFIN.out,HL2.out];simp only [nums_app,n1.out,n2.out,List.append_assoc,List.cons_append,List.nil_append])
   have HOQ:=S99.out.own
   rw [HQ.out] at HOQ
   have HOR:=Hd HOQ
   clear HOQ
   go_roundw
   case rel=>exact ⟨k+1,by go_num,by omega,HOR,Hd S99.out.below⟩
   case measure=>simp [intOf];omega
  ·obtain ⟨c1,c2,c3,c4⟩:=hcl
   have t1:(ua != 0)=true:=by simpa using c1
   have t2:(ub != 0)=false:=by simp [c2]
   have t3:((on:Int)==1)=false:=by simpa using c4
   have HC3:=Hd c3
   have HC4:=Hd c4
   have HL2:=Hd (show lineT k x=nums ka++[58,32]++nums kw++(32::nums aa)++[]++(32::quoI x.name)++[]++[10] by rw [HLI.out];unfold argT namT valT;rw [HON.out,if_neg c1,HAA.out,if_pos c2,if_pos c3,if_neg c4])
   clear c2 c3 c4
   clear c1
   go_wp2_with fail
   refine (HIA.out w4 (HPW.out _ S4.out.below)).mono ?_
   rintro e w5 ⟨rfl,hbC⟩
   have S5:=Hd (S4.out.then S4.out.le hbC)
   clear hbC
   have HZ6:=Hd (show (⟨#[32]⟩++aa:ByteArray).size≤21 by rw [ByteArray.size_append];show 1+aa.size≤21;omega)
   clear f0 f1 f2
   go_wp2_with (first
    | ((with_reducible show wpList _ _ _ (⟨some 47,_,_,_,_,_⟩::_) _ _);refine wpList_strC rfl (.tmp 42) (.tmp 46) rfl wb.heap.size i0 HI0.out HZ0.out HZ1.out HZ2.out w5 v4 _ rfl S5.out.own (⟨#[32]⟩++aa) rfl (by have:=HT4.out;have:=HZ6.out;omega) S5.out.le ?_
       intro v6 w6 ho hg
       have S6:=Hd (S5.out.gr ho hg)
       have HT6:=Hd (show ((T++nums (ka++⟨#[58,32]⟩++kw))++nums (⟨#[32]⟩++aa)).length≤10800000000130 from by have:=HT4.out;have:=HZ6.out;rw [List.length_append,nums_length];omega)
       have f0:=S6.out.row.cell Z0.out
       have f1:=S6.out.row.cell Z1.out
       have f2:=S6.out.row.cell Z2.out
       clear ho hg)
    | ((with_reducible show wpList _ _ _ (⟨some 57,_,_,_,_,_⟩::_) _ _);refine wpList_load_mid rfl 39 _ rfl w1.heap.size 4 rfl vs _ (HCV.out _ _ _ S6.out.row.cells).range Tryz.underlying39 rfl hiv.out ?_)
    | ((with_reducible show wpList _ _ _ (⟨none,.store 39 (.tmp 8) (.tmp 57),_,_,_,_⟩::_) _ _);refine wpList_store_new rfl 39 _ _ rfl zeroV vs.toArray rfl rfl (row_size13 hlv.out) (row_zero13 hlv.out) hvo.out ?_
       have f9:=(S6.out.then S6.out.le (belowBox w6 (.cells vs.toArray 39))).row.cell Z0.out))
   obtain ⟨wv,hwv⟩:∃ wv,wv=w6.alloc (.cells vs.toArray 39):=⟨_,rfl⟩
   have SV:=Hd (show St wb.heap.size w1.heap.size cs wb wv v6 _ by rw [hwv];exact S6.out.then S6.out.le (belowBox _ _))
   have RV:=Hd (show RowT 39 wv w6.heap.size vs by rw [hwv];exact RowT.new w6 39 vs)
   have HNV:=Hd (show v6.ownBlock≠some w6.heap.size from fun e=>by have:=(S6.out.own.lt _ e).2;omega)
   have HNX:=Hd (show w6.heap.size≠w1.heap.size by have:=S6.out.row.lt;omega)
   have HLV:=Hd S6.out.le
   rw [← hwv]
   clear hwv f9
   clear f0 f1 f2
   have f0:=SV.out.row.cell Z0.out
   have f3:=SV.out.row.cell Z3.out
   refine (named_prog (on:Int) wv H30.out).mono ?_
   rw [HC3.out]
   rintro e w' ⟨rfl,hww⟩
   replace hww:=hww.symm
   subst hww
   have ht3:=Hd (show vs.toArray.size=(txtR x.name).toArray.size by rw [List.size_toArray,hlv.out];rfl)
   have ht4:=Hd (Go.all_oneCell_toArray (txtR_at x.name wv w.heap.size N HNM.out).oneCell)
   go_wp2_with fail
   refine (vtext_p x.name wv).mono ?_
   rintro e wt ⟨rfl,hbC⟩
   have ST:=Hd (SV.out.then SV.out.le hbC)
   have RT:=Hd (RV.out.then hbC)
   clear hbC f0 f3
   have SU:=Hd (ST.out.setRow HLV.out HNX.out HNV.out (txtR x.name).toArray)
   have RU:=Hd (RT.out.setRow (txtR x.name))
   have f0:=SU.out.row.cell Z0.out
   go_wp2_with ((with_reducible show wpList _ _ _ (⟨none,.store 39 (.tmp 8) (.tmp 63),_,_,_,_⟩::_) _ _);refine wpList_store_row rfl 39 _ _ rfl w6.heap.size (txtR x.name).toArray rfl rfl 39 vs.toArray RT.out (row_size13 rfl) ht3.out ht4.out ?_)
   obtain ⟨wu,hwu⟩:∃ wu,wu=wt.setRow w6.heap.size (txtR x.name).toArray:=⟨_,rfl⟩
   rw [← hwu] at SU RU f0 ⊢
   clear hwu
   refine (named_prog (on:Int) wu H30.out).mono ?_
   rw [HC3.out]
   rintro e w' ⟨rfl,hww⟩
   replace hww:=hww.symm
   subst hww
   have hir:=Hd (show (Tryz.prog.info? 39).map (·.size)=some (txtR x.name).length by exact sizeV)
   go_wp2_with ((with_reducible show wpList _ _ _ (⟨some 73,_,_,_,_,_⟩::_) _ _);refine wpList_load_mid rfl 39 _ rfl w6.heap.size 0 rfl (txtR x.name) _ RU.out.range Tryz.underlying39 rfl hir.out ?_)
   refine (cText_p (txtV x.name) (txtV_chk (HXO.out.name (by rw [HON.out];exact HC3.out)).1 (HXO.out.name (by rw [HON.out];exact HC3.out)).2) wu w.heap.size N (txtR x.name) hN (HBW.out _ SU.out.below) (txtR_at x.name _ _ _ HNM.out)).mono ?_
   rintro e wz ⟨rfl,hbC⟩
   rw [txtV_can]
   have SZ:=Hd (SU.out.then SU.out.le hbC)
   clear hbC f0
   have HZL:=Hd (show (strOfNums (quoI x.name)).size≤6150 by rw [strOfNums_size];have h1:=quoI_len x.name;have h2:=(HXO.out.name (by rw [HON.out];exact HC3.out)).2;omega)
   have HZN:=Hd (show nums (strOfNums (quoI x.name))=quoI x.name from nums_strOf (quoI_range _))
   obtain ⟨zs,hzs⟩:∃ zs,strOfNums (quoI x.name)=zs:=⟨_,rfl⟩
   rw [hzs] at HZL HZN ⊢
   clear hzs
   have hzl:=HZL.out
   have HZ16:=Hd (show (⟨#[32]⟩++zs:ByteArray).size≤6151 by rw [ByteArray.size_append];show 1+zs.size≤_;omega)
   have q9:(⟨#[32]⟩:ByteArray).size+zs.size≤9223372036854775807:=by show 1+zs.size≤_;omega
   clear hzl
   go_wp2_with (first
    | ((with_reducible show wpList _ _ _ (⟨some 80,_,_,_,_,_⟩::_) _ _);refine wpList_strC rfl (.tmp 77) (.tmp 79) rfl wb.heap.size i0 HI0.out HZ0.out HZ1.out HZ2.out wz v6 _ rfl SZ.out.own (⟨#[32]⟩++zs) rfl (by have:=HT6.out;have:=HZ16.out;omega) SZ.out.le ?_
       intro v16 w16 ho hg
       have S16:=Hd (SZ.out.gr ho hg)
       have HT16:=Hd (show (((T++nums (ka++⟨#[58,32]⟩++kw))++nums (⟨#[32]⟩++aa))++nums (⟨#[32]⟩++zs)).length≤10800000006290 from by have:=HT6.out;have:=HZ16.out;rw [List.length_append,nums_length];omega)
       clear ho hg)
    | ((with_reducible show wpList _ _ _ (⟨some 83,_,_,_,_,_⟩::_) _ _);refine wpList_oneC rfl (.tmp 81) (.tmp 82) rfl wb.heap.size i0 HI0.out HZ0.out HZ1.out HZ2.out _ v16 _ rfl (S16.out.own.then (belowBox w16 (.cells #[.int .u8 10] 5))) 10 ⟨w16.heap.size,0,none⟩ rfl (cell_at0 _ _) (by have:=HT16.out;omega) (by rw [World.size_alloc];have:=S16.out.le;omega) ?_
       intro v99 w99 ho hg
       have S99:=Hd ((S16.out.then S16.out.le (belowBox w16 (.cells #[.int .u8 10] 5))).gr ho hg)
       clear ho hg))
   have HQ:=Hd (show (((T++nums (ka++⟨#[58,32]⟩++kw))++nums (⟨#[32]⟩++aa))++nums (⟨#[32]⟩++zs))++[10]=headT start++linT l (k+1) by rw [HFIN.out,HL2.out];simp only [nums_app,n1.out,n2.out,HZN.out,List.append_assoc,List.cons_append,List.nil_append])
   have HOQ:=S99.out.own
   rw [HQ.out] at HOQ
   have HOR:=Hd HOQ
   clear HOQ
   go_roundw
   case rel=>exact ⟨k+1,by go_num,by omega,HOR,Hd S99.out.below⟩
   case measure=>simp [intOf];omega
  ·obtain ⟨c1,c2,c3,c4⟩:=hcl
   have t1:(ua != 0)=true:=by simpa using c1
   have t2:(ub != 0)=true:=by simpa using c2
   have t3:((on:Int)==1)=false:=by simpa using c4
   have HC3:=Hd c3
   have HC4:=Hd c4
   have HL2:=Hd (show lineT k x=nums ka++[58,32]++nums kw++(32::nums aa)++(32::nums ba)++[]++[]++[10] by rw [HLI.out];unfold argT namT valT;rw [HON.out,if_neg c1,HAA.out,if_neg c2,HBA.out,if_neg (by rw [c3];decide),if_neg c4])
   clear c2 c3 c4
   clear c1
   go_wp2_with fail
   refine (HIA.out w4 (HPW.out _ S4.out.below)).mono ?_
   rintro e w5 ⟨rfl,hbC⟩
   have S5:=Hd (S4.out.then S4.out.le hbC)
   clear hbC
   have HZ6:=Hd (show (⟨#[32]⟩++aa:ByteArray).size≤21 by rw [ByteArray.size_append];show 1+aa.size≤21;omega)
   clear f0 f1 f2
   go_wp2_with (first
    | ((with_reducible show wpList _ _ _ (⟨some 47,_,_,_,_,_⟩::_) _ _);refine wpList_strC rfl (.tmp 42) (.tmp 46) rfl wb.heap.size i0 HI0.out HZ0.out HZ1.out HZ2.out w5 v4 _ rfl S5.out.own (⟨#[32]⟩++aa) rfl (by have:=HT4.out;have:=HZ6.out;omega) S5.out.le ?_
       intro v6 w6 ho hg
       have S6:=Hd (S5.out.gr ho hg)
       have HT6:=Hd (show ((T++nums (ka++⟨#[58,32]⟩++kw))++nums (⟨#[32]⟩++aa)).length≤10800000000130 from by have:=HT4.out;have:=HZ6.out;rw [List.length_append,nums_length];omega)
       have f0:=S6.out.row.cell Z0.out
       have f1:=S6.out.row.cell Z1.out
       have f2:=S6.out.row.cell Z2.out
       clear ho hg))
   refine (HIB.out w6 (HPW.out _ S6.out.below)).mono ?_
   rintro e w7 ⟨rfl,hbC⟩
   have S7:=Hd (S6.out.then S6.out.le hbC)
   clear hbC
   have HZ8:=Hd (show (⟨#[32]⟩++ba:ByteArray).size≤21 by rw [ByteArray.size_append];show 1+ba.size≤21;omega)
   clear f0 f1 f2
   go_wp2_with (first
    | ((with_reducible show wpList _ _ _ (⟨some 55,_,_,_,_,_⟩::_) _ _);refine wpList_strC rfl (.tmp 50) (.tmp 54) rfl wb.heap.size i0 HI0.out HZ0.out HZ1.out HZ2.out w7 v6 _ rfl S7.out.own (⟨#[32]⟩++ba) rfl (by have:=HT6.out;have:=HZ8.out;omega) S7.out.le ?_
       intro v8 w8 ho hg
       have S8:=Hd (S7.out.gr ho hg)
       have HT8:=Hd (show (((T++nums (ka++⟨#[58,32]⟩++kw))++nums (⟨#[32]⟩++aa))++nums (⟨#[32]⟩++ba)).length≤10800000000160 from by have:=HT6.out;have:=HZ8.out;rw [List.length_append,nums_length];omega)
       have f0:=S8.out.row.cell Z0.out
       have f1:=S8.out.row.cell Z1.out
       have f2:=S8.out.row.cell Z2.out
       clear ho hg)
    | ((with_reducible show wpList _ _ _ (⟨some 57,_,_,_,_,_⟩::_) _ _);refine wpList_load_mid rfl 39 _ rfl w1.heap.size 4 rfl vs _ (HCV.out _ _ _ S8.out.row.cells).range Tryz.underlying39 rfl hiv.out ?_)
    | ((with_reducible show wpList _ _ _ (⟨none,.store 39 (.tmp 8) (.tmp 57),_,_,_,_⟩::_) _ _);refine wpList_store_new rfl 39 _ _ rfl zeroV vs.toArray rfl rfl (row_size13 hlv.out) (row_zero13 hlv.out) hvo.out ?_
       have f9:=(S8.out.then S8.out.le (belowBox w8 (.cells vs.toArray 39))).row.cell Z0.out))
   obtain ⟨wv,hwv⟩:∃ wv,wv=w8.alloc (.cells vs.toArray 39):=⟨_,rfl⟩
   have SV:=Hd (show St wb.heap.size w1.heap.size cs wb wv v8 _ by rw [hwv];exact S8.out.then S8.out.le (belowBox _ _))
   have RV:=Hd (show RowT 39 wv w8.heap.size vs by rw [hwv];exact RowT.new w8 39 vs)
   have HNV:=Hd (show v8.ownBlock≠some w8.heap.size from fun e=>by have:=(S8.out.own.lt _ e).2;omega)
   have HNX:=Hd (show w8.heap.size≠w1.heap.size by have:=S8.out.row.lt;omega)
   have HLV:=Hd S8.out.le
   rw [← hwv]
   clear hwv f9
   clear f0 f1 f2
   have f0:=SV.out.row.cell Z0.out
   have f3:=SV.out.row.cell Z3.out
   refine (named_prog (on:Int) wv H30.out).mono ?_
   rw [HC3.out]
   rintro e w' ⟨rfl,hww⟩
   replace hww:=hww.symm
   subst hww
   go_wp2_with fail
   refine (named_prog (on:Int) wv H30.out).mono ?_
   rw [HC3.out]
   rintro e w' ⟨rfl,hww⟩
   replace hww:=hww.symm
   subst hww
   go_wp2_with (first
    | ((with_reducible show wpList _ _ _ (⟨some 83,_,_,_,_,_⟩::_) _ _);refine wpList_oneC rfl (.tmp 81) (.tmp 82) rfl wb.heap.size i0 HI0.out HZ0.out HZ1.out HZ2.out _ v8 _ rfl (SV.out.own.then (belowBox wv (.cells #[.int .u8 10] 5))) 10 ⟨wv.heap.size,0,none⟩ rfl (cell_at0 _ _) (by have:=HT8.out;omega) (by rw [World.size_alloc];have:=SV.out.le;omega) ?_
       intro v99 w99 ho hg
       have S99:=Hd ((SV.out.then SV.out.le (belowBox wv (.cells #[.int .u8 10] 5))).gr ho hg)
       clear ho hg))
   have HQ:=Hd (show (((T++nums (ka++⟨#[58,32]⟩++kw))++nums (⟨#[32]⟩++aa))++nums (⟨#[32]⟩++ba))++[10]=headT start++linT l (k+1) by rw [HFIN.out,HL2.out];simp only [nums_app,n1.out,n2.out,List.append_assoc,List.cons_append,List.nil_append])
   have HOQ:=S99.out.own
   rw [HQ.out] at HOQ
   have HOR:=Hd HOQ
   clear HOQ
   go_roundw
   case rel=>exact ⟨k+1,by go_num,by omega,HOR,Hd S99.out.below⟩
   case measure=>simp [intOf];omega
end Go.Proofs.YtniljgkkcnekgaaGreatDoor
