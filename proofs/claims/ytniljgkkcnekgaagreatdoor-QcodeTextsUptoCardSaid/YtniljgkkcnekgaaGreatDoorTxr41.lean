/- datakitref41.Text (printed by gentxr.py). -/
import Derived.Test.YtniljgkkcnekgaaGreatDoorProg
import Derived.Test.YtniljgkkcnekgaaGreatDoorGA
import Derived.Test.YtniljgkkcnekgaaGreatDoorGB
import Derived.Test.YtniljgkkcnekgaaGreatDoorGD
import Derived.Test.YtniljgkkcnekgaaGreatDoorGC
import Derived.Test.YtniljgkkcnekgaaGreatDoorIN
import Derived.Test.YtniljgkkcnekgaaGreatDoorGZ
import Derived.Test.YtniljgkkcnekgaaGreatDoorGT
import Derived.Test.YtniljgkkcnekgaaGreatDoorBL
import Derived.Test.YtniljgkkcnekgaaGreatDoorCN
import Derived.Test.YtniljgkkcnekgaaGreatDoorGR
import Derived.Test.YtniljgkkcnekgaaGreatDoorNI
import Derived.Test.YtniljgkkcnekgaaGreatDoorCX
import Derived.Test.YtniljgkkcnekgaaGreatDoorTxp41
import Derived.Test.YtniljgkkcnekgaaGreatDoorCan41
import Derived.Test.YtniljgkkcnekgaaGreatDoorCal41
namespace Go.Proofs.YtniljgkkcnekgaaGreatDoor
namespace Stb
end Stb
open Go.RowKit Stb
def WordsAt (w : World) : Prop := w.var? Tryz.prog "datakit/datakitref41.words" = some (wordsL.map fun l => Value.string ⟨l.toArray⟩).toArray
theorem gWords : Tryz.prog.globalNamed "datakit/datakitref41.words" = some 0 := by kernel_rfl
theorem WordsAt.cell {w:World} (h:WordsAt w) {n:Nat} (hn:n<31):w.cell? ⟨0,n,none⟩=some (.string (wordB n)):=by
 have h1:=World.var?_cell gWords h n
 rw [h1,List.getElem?_toArray,List.getElem?_map,List.getElem?_eq_getElem (show n<wordsL.length from hn)]
 unfold wordB
 rw [List.getD_eq_getElem?_getD,List.getElem?_eq_getElem (show n<wordsL.length from hn)]
 rfl
theorem WordsAt.then {w w':World} (h:WordsAt w) (hb:Below w.heap.size w w'):WordsAt w':=by
 have h0:=h.cell (n:=0) (by omega)
 have hlt:0<w.heap.size:=World.block_lt_of_cell? w ⟨0,0,none⟩ h0
 exact var?_below hb gWords hlt h
structure Sr (L bx:Nat) (cs:List Value) (wb w:World):Prop where
 below:Below L wb w
 row:RowT 41 w bx cs
 le:L≤w.heap.size
theorem Sr.then {L bx:Nat} {cs:List Value} {wb w w':World} (h:Sr L bx cs wb w) (hb:Below w.heap.size w w'):Sr L bx cs wb w':=⟨h.below.trans (hb.mono h.le),h.row.then hb,Nat.le_trans h.le hb.size⟩
theorem refA0 (op:Int):refA op=0↔useA op=0:=by
 unfold refA
 split
 ·rename_i h;subst h;decide
 ·exact Iff.rfl
theorem ba_append_nil (s:ByteArray):s++(⟨#[]⟩:ByteArray)=s:=by
 apply ByteArray.ext
 rw [ByteArray.data_append]
 simp
set_option maxRecDepth 100000 in
set_option maxHeartbeats 25600000 in
theorem text41_r (start:Int) (l:List InsD) (a:Option Addr) (c:Nat) (w:World) (N:Nat) (hN:N≤4294967296) (hl:l.length≤400) (hc:codeE start l=0) (hW:WordsAt w) (h:InssAt w w.heap.size N l a) :
 Calls Tryz.prog 9 #[.agg #[.int .i64 start,.slice a l.length c]] w (StrB (strOfNums (headT start++linT l l.length)) w):=by
 obtain ⟨⟨hs1,hs2⟩,hok⟩:=code_ok hl hc
 have HOK:=Hd hok
 have HLN:=Hd (linT_len hok hl)
 obtain ⟨n,hn⟩:∃ n,l.length=n:=⟨_,rfl⟩
 have HNL:=Hd hn
 rw [hn] at hl hs2 ⊢
 have HLS:=Hd h
 obtain ⟨wb,hwb⟩:∃ wb,wb=w.alloc (.cells #[.int .i64 start,.slice a n c] 24):=⟨_,rfl⟩
 have HWB:=Hd hwb
 have RB:=Hd (show RowT 24 wb w.heap.size (codeC start n a c) by rw [hwb];exact RowT.new w 24 (codeC start n a c))
 have HB1:=Hd (show Below w.heap.size w wb by rw [hwb];exact belowBox w _)
 have HSZ:=Hd (show wb.heap.size=w.heap.size+1 by rw [hwb,World.size_alloc])
 have HWD:=Hd (hW.then HB1.out)
 have e0:=RB.out.cell (j:=0) (v:=.int .i64 start) rfl
 rw [hwb] at e0
 have HHL:=Hd (headT_len hs1 (by omega))
 have hz:=itoS_size (n:=start) (by omega) (by omega)
 have HIT:=Hd (fun u=>number41 start (by omega) (by omega) u)
 have HHD:=Hd (show (⟨#[115,116,97,114,116,32]⟩++itoS start++⟨#[10]⟩:ByteArray)=strOfNums (headT start++linT l 0) by
  rw [show headT start++linT l 0=headT start by simp [linT]]
  unfold headT
  rw [strNums_app,strNums_app,strOf_nums]
  rfl)
 obtain ⟨t,ht⟩:∃ t,itoS start=t:=⟨_,rfl⟩
 rw [ht] at hz HIT HHD
 have q1:(⟨#[115,116,97,114,116,32]⟩:ByteArray).size+t.size≤9223372036854775807:=by show 6+t.size≤_;omega
 have q2:(⟨#[115,116,97,114,116,32]⟩++t:ByteArray).size+(⟨#[10]⟩:ByteArray).size≤9223372036854775807:=by rw [ByteArray.size_append];show 6+t.size+1≤_;omega
 clear hW h hok hn hwb ht hc hs1 hs2
 go_enter Tryz.func9,Tryz.ntmps9
 go_wp2_with fail
 rw [← HWB.out]
 refine (HIT.out wb).mono ?_
 rintro e w0 ⟨rfl,hb0⟩
 have HB0:=Hd hb0
 clear hb0 e0
 go_wp2_with fail
 go_simp
 clear q1 q2 hz
 go_loopw [3,4] (fun u t wr=>∃ (k:Nat) (s:ByteArray),t=.int .i64 k∧k≤n∧u=.string s∧Hid (s=strOfNums (headT start++linT l k))∧Hid (Below wb.heap.size wb wr)) (fun _ t _=>n-(intOf t).toNat)
 case atStart=>exact ⟨0,_,rfl,by omega,rfl,HHD,HB0⟩
 case round =>
  clear HHD HB0
  obtain ⟨w1,rfl⟩:∃ w1,w1=wr:=⟨wr,rfl⟩
  obtain ⟨k,s,rfl,hk,rfl,HS,HB1w⟩:=hrel
  have e1:=(RB.out.then HB1w.out).cell (j:=1) (v:=.slice a n c) rfl
  by_cases hlt:k<n
  case neg =>
   have hke:k=n:=by omega
   have HR:=Hd (show s=strOfNums (headT start++linT l n) by rw [HS.out,hke])
   clear hke
   go_wp2_with fail
   go_ret
   exact ⟨by rw [← HR.out];rfl,HB1.out.trans (HB1w.out.mono (by have:=HSZ.out;omega))⟩
  have hlt2:k<l.length:=by rw [HNL.out];exact hlt
  obtain ⟨g,oo,rfl,hgb,cs,g1,g2⟩:=HLS.out.get hlt2
  have HXS:=Hd (linT_s hlt2)
  have HXO:=Hd (HOK.out l[k] (List.getElem_mem hlt2))
  have HTL:=Hd (show s.size≤10800000000030 by rw [HS.out,strOfNums_size];have:=HLN.out k (by omega);have:=HHL.out;rw [List.length_append];omega)
  have hts:=HTL.out
  obtain ⟨x,hx⟩:∃ x,l[k]=x:=⟨_,rfl⟩
  rw [hx] at g2 HXS HXO
  have HFIN:=Hd (show strOfNums (headT start++linT l (k+1))=s++strOfNums (lineT k x) by rw [HXS.out,HS.out,← strNums_app,List.append_assoc])
  have hh0:Below w.heap.size w w1:=HB1.out.trans (HB1w.out.mono (by have:=HSZ.out;omega))
  have HR:=Hd (g1.below hh0 hgb).range
  obtain ⟨vs,hh⟩:=g2.has
  have HVAL:=Hd (show ∀ u,Below wb.heap.size wb u→ValD.At u w.heap.size N x.val vs from fun u hu=>(hh.val.below HB1.out).below (hu.mono (by have:=HSZ.out;omega)))
  have HBW:=Hd (show ∀ u,Below wb.heap.size wb u→w.heap.size≤u.heap.size from fun u hu=>by have:=hu.size;have:=HSZ.out;omega)
  have Z0:=Hd hh.op
  have Z1:=Hd hh.a
  have Z2:=Hd hh.b
  have Z3:=Hd hh.name
  have HCV:=Hd (hh.cells)
  have hlv:=Hd hh.val.len
  have hiv:=Hd (show (Tryz.prog.info? 39).map (·.size)=some vs.length by rw [hlv.out];exact sizeV)
  have hii:=Hd (show (Tryz.prog.info? 41).map (·.size)=some cs.length by rw [g2.len];exact sizeIns)
  have hii2:=Hd (insRow41 g2.len)
  have hii3:=Hd (insZer41 g2.len)
  have hii4:=Hd (Go.all_oneCell_toArray g2.oneCell)
  obtain ⟨wx,hwx⟩:∃ wx,wx=w1.alloc (.cells cs.toArray 41):=⟨_,rfl⟩
  have HWX:=Hd hwx
  have SX:=Hd (show Sr wb.heap.size w1.heap.size cs wb wx from by rw [hwx];exact ⟨belowThen HB1w.out (belowBox w1 _),RowT.new w1 41 cs,by rw [World.size_alloc];have:=HB1w.out.size;omega⟩)
  obtain ⟨on,hon⟩:=Int.eq_ofNat_of_zero_le (show 0≤x.op by have:=HXO.out.op;omega)
  have hon31:on<31:=by have:=HXO.out.op;omega
  have H30:=Hd (show ¬ ((on:Int)<1∨30<(on:Int)) by have:=HXO.out.op;omega)
  have HCL:=Hd (cls41 HXO.out.op)
  rw [hon] at Z0 HCL
  have HON:=Hd hon
  have hzk:=itoS_size (n:=(k:Int)) (by omega) (by omega)
  have hzw:=wordB_size on
  have hza:=itoS_size (n:=x.a) (by have:=HXO.out.a;omega) (by have:=HXO.out.a;omega)
  have hzb:=itoS_size (n:=x.b) (by have:=HXO.out.b;omega) (by have:=HXO.out.b;omega)
  have HIA:=Hd (fun u=>number41 x.a (by have:=HXO.out.a;omega) (by have:=HXO.out.a;omega) u)
  have HIB:=Hd (fun u=>number41 x.b (by have:=HXO.out.b;omega) (by have:=HXO.out.b;omega) u)
  have HIK:=Hd (fun u=>number41 (k:Int) (by omega) (by omega) u)
  have HWC:=Hd (show ∀ u,Below wb.heap.size wb u→u.cell? ⟨0,on,none⟩=some (.string (wordB on)) from fun u hu=>(HWD.out.then hu).cell hon31)
  have HLI:=Hd (show strOfNums (lineT k x)=itoS k++⟨#[58,32]⟩++wordB on++strOfNums (argT (useA on) x.a)++strOfNums (argT (useB on) x.b)++strOfNums (namT x)++strOfNums (valT x)++⟨#[10]⟩ by
   unfold lineT
   rw [strNums_app,strNums_app,strNums_app,strNums_app,strNums_app,strNums_app,strNums_app,strOf_nums,strOf_nums,hon]
   rfl)
  obtain ⟨ka,hka⟩:∃ ka,itoS (k:Int)=ka:=⟨_,rfl⟩
  obtain ⟨kw,hkw⟩:∃ kw,wordB on=kw:=⟨_,rfl⟩
  obtain ⟨aa,haa⟩:∃ aa,itoS x.a=aa:=⟨_,rfl⟩
  obtain ⟨ba,hba⟩:∃ ba,itoS x.b=ba:=⟨_,rfl⟩
  rw [hka,hkw] at HLI
  rw [hka] at hzk HIK
  rw [hkw] at hzw HWC
  rw [haa] at hza HIA
  rw [hba] at hzb HIB
  have HAA:=Hd (show strOfNums (32::nums (itoS x.a))=⟨#[32]⟩++aa by rw [show (32::nums (itoS x.a))=[32]++nums (itoS x.a) from rfl,strNums_app,strOf_nums,haa];rfl)
  have HBA:=Hd (show strOfNums (32::nums (itoS x.b))=⟨#[32]⟩++ba by rw [show (32::nums (itoS x.b))=[32]++nums (itoS x.b) from rfl,strNums_app,strOf_nums,hba];rfl)
  obtain ⟨ua,hua⟩:∃ ua,useA (on:Int)=ua:=⟨_,rfl⟩
  obtain ⟨ub,hub⟩:∃ ub,useB (on:Int)=ub:=⟨_,rfl⟩
  obtain ⟨ra,hra⟩:∃ ra,refA (on:Int)=ra:=⟨_,rfl⟩
  have HRA:=Hd (show ra=0↔ua=0 by rw [← hra,← hua];exact refA0 _)
  rw [hua,hub] at HCL HLI
  have HUB:=Hd hub
  have HUR:=Hd hra
  clear g1 g2 hh hh0 hx hwx hon hka hkw haa hba hua hub hlt2 hra
  go_wp2_with (first
   | ((with_reducible show wpList _ _ _ (⟨some 25,_,_,_,_,_⟩::_) _ _);refine wpList_load_mid rfl 41 _ rfl g (oo+k * 17) rfl cs _ HR.out Tryz.underlying41 rfl hii.out ?_)
   | ((with_reducible show wpList _ _ _ (⟨none,.store 41 (.tmp 5) (.tmp 25),_,_,_,_⟩::_) _ _);refine wpList_store_new rfl 41 _ _ rfl zerT41 cs.toArray rfl rfl hii2.out hii3.out hii4.out ?_
      have f0:=(RowT.new w1 41 cs).cell Z0.out))
  rw [← HWX.out]
  clear f0 e1
  refine (fields_ref (on:Int) wx H30.out).mono ?_
  rw [HUR.out,HUB.out]
  rintro e w' ⟨rfl,hww⟩
  replace hww:=hww.symm
  subst hww
  rcases HCL.out with hcl | hcl | hcl | hcl | hcl | hcl
  ·obtain ⟨c1,c2,c3,c4⟩:=hcl
   have t1:(ra != 0)=false:=by have h:ra=0:=HRA.out.2 c1;simp [h]
   have t2:(ub != 0)=false:=by simp [c2]
   have t3:((on:Int)==1)=false:=by simpa using c4
   have HC3:=Hd c3
   have HC4:=Hd c4
   have HN0:=Hd (show strOfNums []=⟨#[]⟩ from rfl)
   have HL2:=Hd (show strOfNums (lineT k x)=ka++⟨#[58,32]⟩++kw++⟨#[]⟩++⟨#[]⟩++⟨#[]⟩++⟨#[]⟩++⟨#[10]⟩ by rw [HLI.out];unfold argT namT valT;rw [HON.out,if_pos c1,if_pos c2,if_neg (by rw [c3];decide),if_neg c4];try rfl)
   clear c1 c2 c4
   rw [c3]
   clear c3
   go_wp2_with fail
   refine wp_region_held_drew (S:=fun u=>Sr wb.heap.size w1.heap.size cs wb u) (by kernel_rfl) (SX.out.then (drewU wx)) (fun hHeld=>?_)
   refine' tk 0 (.string s) rfl rfl (.inl ⟨by rfl,fun u hu=>(by go_simp)⟩) hHeld ?_
   simp only [sq1,sq0]
   refine' tk 1 (.int .i64 k) rfl rfl (.inl ⟨by rfl,fun u hu=>(by go_simp)⟩) hHeld ?_
   simp only [sq1,sq0]
   refine' tk 5 (.pointer (some ⟨w1.heap.size,0,none⟩)) rfl rfl (.inl ⟨by rfl,fun u hu=>(by go_simp)⟩) hHeld ?_
   simp only [sq1,sq0]
   refine' tk 6 (.int .i64 on) rfl rfl (.inl ⟨by rfl,fun u hu=>(by have hc:=RowT.cell (Sr.row hu) Z0.out;go_simp)⟩) hHeld ?_
   simp only [sq1,sq0]
   refine' tk 7 (.pointer (some ⟨0,on,none⟩)) rfl rfl (.inl ⟨by rfl,fun u hu=>(by have h1:(on:Int)<31:=(by omega);have h2:¬ (31:Int)≤(on:Int):=(by omega);go_simp)⟩) hHeld ?_
   simp only [sq1,sq0]
   refine' tk 8 (.string kw) rfl rfl (.inl ⟨by rfl,fun u hu=>(by have hc:=HWC.out u (Sr.below hu);go_simp)⟩) hHeld ?_
   simp only [sq1,sq0]
   have SD:=Hd (SX.out.then (drewU wx))
   refine rd1 2 rfl (fun K hK=>?_)
   go_simp
   refine (HIK.out _).mono ?_
   rintro e w2 ⟨rfl,hbC⟩
   have S2:=Hd (SD.out.then hbC)
   refine hK.out _ _ S2.out (fun hHeld1=>?_)
   clear hK K hbC hHeld
   have hHeld:=hHeld1
   clear hHeld1
   refine' tk 3 (.string (s++ka)) rfl rfl (.inl ⟨by rfl,fun u hu=>(by go_simp;all_goals omega)⟩) hHeld ?_
   simp only [sq1,sq0]
   refine' tk 4 (.string (s++ka++⟨#[58,32]⟩)) rfl rfl (.inl ⟨by rfl,fun u hu=>(by go_simp;all_goals omega)⟩) hHeld ?_
   simp only [sq1,sq0]
   refine' tk 9 (.string (s++ka++⟨#[58,32]⟩++kw)) rfl rfl (.inl ⟨by rfl,fun u hu=>(by go_simp;all_goals omega)⟩) hHeld ?_
   simp only [sq1,sq0]
   refine rd1 10 rfl (fun K hK=>?_)
   go_simp
   refine hK.out _ _ hHeld (fun hHeldx=>?_)
   clear hK K hHeldx hHeld
   refine wpAnyH_done (by kernel_rfl) ?_ _
   obtain ⟨s2,hs2⟩:∃ s2,s++ka++⟨#[58,32]⟩++kw=s2:=⟨_,rfl⟩
   have hz2:s2.size≤10800000000058:=by rw [← hs2];simp only [ByteArray.size_append];show s.size+ka.size+2+kw.size≤_;omega
   rw [hs2]
   have HS2:=Hd hs2
   clear hs2
   have f0:=S2.out.row.cell Z0.out
   have f1:=S2.out.row.cell Z1.out
   have f2:=S2.out.row.cell Z2.out
   have f3:=S2.out.row.cell Z3.out
   go_wp2_with fail
   go_roundw
   case rel=>exact ⟨k+1,s2++⟨#[10]⟩,by go_num,by omega,rfl,Hd (by rw [HFIN.out,HL2.out,← HS2.out];simp only [ByteArray.append_assoc,ba_append_nil]),S2.out.below |> Lib.hid⟩
   case measure=>simp [intOf];omega
  ·obtain ⟨c1,c2,c3,c4⟩:=hcl
   have t1:(ra != 0)=false:=by have h:ra=0:=HRA.out.2 c1;simp [h]
   have t2:(ub != 0)=false:=by simp [c2]
   have t3:((on:Int)==1)=true:=by simpa using c4
   have HC3:=Hd c3
   have HC4:=Hd c4
   have HN0:=Hd (show strOfNums []=⟨#[]⟩ from rfl)
   have HVV:=Hd (show strOfNums (32::canC 48 x.val)=⟨#[32]⟩++strOfNums (canC 48 x.val) by rw [show (32::canC 48 x.val)=[32]++canC 48 x.val from rfl,strNums_app];rfl)
   have HL2:=Hd (show strOfNums (lineT k x)=ka++⟨#[58,32]⟩++kw++⟨#[]⟩++⟨#[]⟩++⟨#[]⟩++(⟨#[32]⟩++strOfNums (canC 48 x.val))++⟨#[10]⟩ by rw [HLI.out];unfold argT namT valT;rw [HON.out,if_pos c1,if_pos c2,if_neg (by rw [c3];decide),if_pos c4,HVV.out];try rfl)
   clear c1 c2 c4
   rw [c3]
   clear c3
   go_wp2_with fail
   refine wp_region_held_drew (S:=fun u=>Sr wb.heap.size w1.heap.size cs wb u) (by kernel_rfl) (SX.out.then (drewU wx)) (fun hHeld=>?_)
   refine' tk 0 (.string s) rfl rfl (.inl ⟨by rfl,fun u hu=>(by go_simp)⟩) hHeld ?_
   simp only [sq1,sq0]
   refine' tk 1 (.int .i64 k) rfl rfl (.inl ⟨by rfl,fun u hu=>(by go_simp)⟩) hHeld ?_
   simp only [sq1,sq0]
   refine' tk 5 (.pointer (some ⟨w1.heap.size,0,none⟩)) rfl rfl (.inl ⟨by rfl,fun u hu=>(by go_simp)⟩) hHeld ?_
   simp only [sq1,sq0]
   refine' tk 6 (.int .i64 on) rfl rfl (.inl ⟨by rfl,fun u hu=>(by have hc:=RowT.cell (Sr.row hu) Z0.out;go_simp)⟩) hHeld ?_
   simp only [sq1,sq0]
   refine' tk 7 (.pointer (some ⟨0,on,none⟩)) rfl rfl (.inl ⟨by rfl,fun u hu=>(by have h1:(on:Int)<31:=(by omega);have h2:¬ (31:Int)≤(on:Int):=(by omega);go_simp)⟩) hHeld ?_
   simp only [sq1,sq0]
   refine' tk 8 (.string kw) rfl rfl (.inl ⟨by rfl,fun u hu=>(by have hc:=HWC.out u (Sr.below hu);go_simp)⟩) hHeld ?_
   simp only [sq1,sq0]
   have SD:=Hd (SX.out.then (drewU wx))
   refine rd1 2 rfl (fun K hK=>?_)
   go_simp
   refine (HIK.out _).mono ?_
   rintro e w2 ⟨rfl,hbC⟩
   have S2:=Hd (SD.out.then hbC)
   refine hK.out _ _ S2.out (fun hHeld1=>?_)
   clear hK K hbC hHeld
   have hHeld:=hHeld1
   clear hHeld1
   refine' tk 3 (.string (s++ka)) rfl rfl (.inl ⟨by rfl,fun u hu=>(by go_simp;all_goals omega)⟩) hHeld ?_
   simp only [sq1,sq0]
   refine' tk 4 (.string (s++ka++⟨#[58,32]⟩)) rfl rfl (.inl ⟨by rfl,fun u hu=>(by go_simp;all_goals omega)⟩) hHeld ?_
   simp only [sq1,sq0]
   refine' tk 9 (.string (s++ka++⟨#[58,32]⟩++kw)) rfl rfl (.inl ⟨by rfl,fun u hu=>(by go_simp;all_goals omega)⟩) hHeld ?_
   simp only [sq1,sq0]
   refine rd1 10 rfl (fun K hK=>?_)
   go_simp
   refine hK.out _ _ hHeld (fun hHeldx=>?_)
   clear hK K hHeldx hHeld
   refine wpAnyH_done (by kernel_rfl) ?_ _
   obtain ⟨s2,hs2⟩:∃ s2,s++ka++⟨#[58,32]⟩++kw=s2:=⟨_,rfl⟩
   have hz2:s2.size≤10800000000058:=by rw [← hs2];simp only [ByteArray.size_append];show s.size+ka.size+2+kw.size≤_;omega
   rw [hs2]
   have HS2:=Hd hs2
   clear hs2
   have f0:=S2.out.row.cell Z0.out
   have f1:=S2.out.row.cell Z1.out
   have f2:=S2.out.row.cell Z2.out
   have f3:=S2.out.row.cell Z3.out
   have hzq2:(strOfNums (canC 48 x.val)).size≤26870000000:=by rw [strOfNums_size];exact val_len HXO.out (by rw [HON.out];exact HC4.out)
   have HQ:=Hd (show ∀ u,Sr wb.heap.size w1.heap.size cs wb u→Calls Tryz.prog 23 #[.agg vs.toArray] u (StrB (strOfNums (canC 48 x.val)) u) from fun u hu=>can_all 48 u w.heap.size N x.val vs hN (okK_of 48 x.val 0 (HXO.out.val (by rw [HON.out];exact HC4.out))) (HBW.out _ hu.below) (HVAL.out _ hu.below) (by have:=val_len HXO.out (by rw [HON.out];exact HC4.out);omega))
   obtain ⟨zq,hzq⟩:∃ zq,strOfNums (canC 48 x.val)=zq:=⟨_,rfl⟩
   rw [hzq] at HQ hzq2 HL2
   clear hzq
   go_wp2_with ((with_reducible show wpList _ _ _ (⟨some 72,_,_,_,_,_⟩::_) _ _);refine wpList_load_mid rfl 39 _ rfl w1.heap.size 4 rfl vs _ (HCV.out _ _ _ S2.out.row.cells).range Tryz.underlying39 rfl hiv.out ?_)
   refine (HQ.out w2 S2.out).mono ?_
   rintro e w7 ⟨rfl,hbC⟩
   have S7:=Hd (S2.out.then hbC)
   clear hbC f0 f1 f2 f3
   have f0:=S7.out.row.cell Z0.out
   have f1:=S7.out.row.cell Z1.out
   have f2:=S7.out.row.cell Z2.out
   have f3:=S7.out.row.cell Z3.out
   have q7a:(s2++⟨#[32]⟩:ByteArray).size+zq.size≤9223372036854775807:=by rw [ByteArray.size_append];show s2.size+1+zq.size≤_;omega
   obtain ⟨s7,hs7⟩:∃ s9,s2++⟨#[32]⟩++zq=s9:=⟨_,rfl⟩
   have hz7:s7.size≤10826870000078:=by rw [← hs7];simp only [ByteArray.size_append];show s2.size+1+zq.size≤_;omega
   have HS7:=Hd hs7
   go_wp2_with fail
   go_roundw
   case rel=>exact ⟨k+1,s7++⟨#[10]⟩,by go_num,by omega,rfl,Hd (by rw [HFIN.out,HL2.out,← HS7.out,← HS2.out];simp only [ByteArray.append_assoc,ba_append_nil]),S7.out.below |> Lib.hid⟩
   case measure=>simp [intOf];omega
  ·obtain ⟨c1,c2,c3,c4⟩:=hcl
   have t1:(ra != 0)=false:=by have h:ra=0:=HRA.out.2 c1;simp [h]
   have t2:(ub != 0)=false:=by simp [c2]
   have t3:((on:Int)==1)=false:=by simpa using c4
   have HC3:=Hd c3
   have HC4:=Hd c4
   have HN0:=Hd (show strOfNums []=⟨#[]⟩ from rfl)
   have HNN:=Hd (show strOfNums (32::quoI x.name)=⟨#[32]⟩++quoteS x.name by rw [show (32::quoI x.name)=[32]++quoI x.name from rfl,strNums_app];rfl)
   have HL2:=Hd (show strOfNums (lineT k x)=ka++⟨#[58,32]⟩++kw++⟨#[]⟩++⟨#[]⟩++(⟨#[32]⟩++quoteS x.name)++⟨#[]⟩++⟨#[10]⟩ by rw [HLI.out];unfold argT namT valT;rw [HON.out,if_pos c1,if_pos c2,if_pos c3,HNN.out,if_neg c4];try rfl)
   clear c1 c2 c4
   rw [c3]
   clear c3
   go_wp2_with fail
   refine wp_region_held_drew (S:=fun u=>Sr wb.heap.size w1.heap.size cs wb u) (by kernel_rfl) (SX.out.then (drewU wx)) (fun hHeld=>?_)
   refine' tk 0 (.string s) rfl rfl (.inl ⟨by rfl,fun u hu=>(by go_simp)⟩) hHeld ?_
   simp only [sq1,sq0]
   refine' tk 1 (.int .i64 k) rfl rfl (.inl ⟨by rfl,fun u hu=>(by go_simp)⟩) hHeld ?_
   simp only [sq1,sq0]
   refine' tk 5 (.pointer (some ⟨w1.heap.size,0,none⟩)) rfl rfl (.inl ⟨by rfl,fun u hu=>(by go_simp)⟩) hHeld ?_
   simp only [sq1,sq0]
   refine' tk 6 (.int .i64 on) rfl rfl (.inl ⟨by rfl,fun u hu=>(by have hc:=RowT.cell (Sr.row hu) Z0.out;go_simp)⟩) hHeld ?_
   simp only [sq1,sq0]
   refine' tk 7 (.pointer (some ⟨0,on,none⟩)) rfl rfl (.inl ⟨by rfl,fun u hu=>(by have h1:(on:Int)<31:=(by omega);have h2:¬ (31:Int)≤(on:Int):=(by omega);go_simp)⟩) hHeld ?_
   simp only [sq1,sq0]
   refine' tk 8 (.string kw) rfl rfl (.inl ⟨by rfl,fun u hu=>(by have hc:=HWC.out u (Sr.below hu);go_simp)⟩) hHeld ?_
   simp only [sq1,sq0]
   have SD:=Hd (SX.out.then (drewU wx))
   refine rd1 2 rfl (fun K hK=>?_)
   go_simp
   refine (HIK.out _).mono ?_
   rintro e w2 ⟨rfl,hbC⟩
   have S2:=Hd (SD.out.then hbC)
   refine hK.out _ _ S2.out (fun hHeld1=>?_)
   clear hK K hbC hHeld
   have hHeld:=hHeld1
   clear hHeld1
   refine' tk 3 (.string (s++ka)) rfl rfl (.inl ⟨by rfl,fun u hu=>(by go_simp;all_goals omega)⟩) hHeld ?_
   simp only [sq1,sq0]
   refine' tk 4 (.string (s++ka++⟨#[58,32]⟩)) rfl rfl (.inl ⟨by rfl,fun u hu=>(by go_simp;all_goals omega)⟩) hHeld ?_
   simp only [sq1,sq0]
   refine' tk 9 (.string (s++ka++⟨#[58,32]⟩++kw)) rfl rfl (.inl ⟨by rfl,fun u hu=>(by go_simp;all_goals omega)⟩) hHeld ?_
   simp only [sq1,sq0]
   refine rd1 10 rfl (fun K hK=>?_)
   go_simp
   refine hK.out _ _ hHeld (fun hHeldx=>?_)
   clear hK K hHeldx hHeld
   refine wpAnyH_done (by kernel_rfl) ?_ _
   obtain ⟨s2,hs2⟩:∃ s2,s++ka++⟨#[58,32]⟩++kw=s2:=⟨_,rfl⟩
   have hz2:s2.size≤10800000000058:=by rw [← hs2];simp only [ByteArray.size_append];show s.size+ka.size+2+kw.size≤_;omega
   rw [hs2]
   have HS2:=Hd hs2
   clear hs2
   have f0:=S2.out.row.cell Z0.out
   have f1:=S2.out.row.cell Z1.out
   have f2:=S2.out.row.cell Z2.out
   have f3:=S2.out.row.cell Z3.out
   have hqn:=Hd (HXO.out.name (by rw [HON.out];exact HC3.out)).2
   have HQ:=Hd (fun u=>quoted_r x.name u (by have:=hqn.out;omega))
   have hzq:=quoteS_size x.name
   have hzq2:(quoteS x.name).size≤6146:=by have:=hqn.out;omega
   clear hzq
   obtain ⟨zq,hzq⟩:∃ zq,quoteS x.name=zq:=⟨_,rfl⟩
   rw [hzq] at HQ hzq2 HL2
   clear hzq
   go_wp2_with fail
   refine (HQ.out w2).mono ?_
   rintro e w7 ⟨rfl,hbC⟩
   have S7:=Hd (S2.out.then hbC)
   clear hbC f0 f1 f2 f3
   have f0:=S7.out.row.cell Z0.out
   have f1:=S7.out.row.cell Z1.out
   have f2:=S7.out.row.cell Z2.out
   have f3:=S7.out.row.cell Z3.out
   have q7a:(s2++⟨#[32]⟩:ByteArray).size+zq.size≤9223372036854775807:=by rw [ByteArray.size_append];show s2.size+1+zq.size≤_;omega
   obtain ⟨s7,hs7⟩:∃ s9,s2++⟨#[32]⟩++zq=s9:=⟨_,rfl⟩
   have hz7:s7.size≤10800000006278:=by rw [← hs7];simp only [ByteArray.size_append];show s2.size+1+zq.size≤_;omega
   have HS7:=Hd hs7
   go_wp2_with fail
   go_roundw
   case rel=>exact ⟨k+1,s7++⟨#[10]⟩,by go_num,by omega,rfl,Hd (by rw [HFIN.out,HL2.out,← HS7.out,← HS2.out];simp only [ByteArray.append_assoc,ba_append_nil]),S7.out.below |> Lib.hid⟩
   case measure=>simp [intOf];omega
  ·obtain ⟨c1,c2,c3,c4⟩:=hcl
   have t1:(ra != 0)=true:=by have h:ra≠0:=fun e=>c1 (HRA.out.1 e);simpa using h
   have t2:(ub != 0)=false:=by simp [c2]
   have t3:((on:Int)==1)=false:=by simpa using c4
   have HC3:=Hd c3
   have HC4:=Hd c4
   have HN0:=Hd (show strOfNums []=⟨#[]⟩ from rfl)
   have HL2:=Hd (show strOfNums (lineT k x)=ka++⟨#[58,32]⟩++kw++(⟨#[32]⟩++aa)++⟨#[]⟩++⟨#[]⟩++⟨#[]⟩++⟨#[10]⟩ by rw [HLI.out];unfold argT namT valT;rw [HON.out,if_neg c1,HAA.out,if_pos c2,if_neg (by rw [c3];decide),if_neg c4];try rfl)
   clear c1 c2 c4
   rw [c3]
   clear c3
   go_wp2_with fail
   refine wp_region_held_drew (S:=fun u=>Sr wb.heap.size w1.heap.size cs wb u) (by kernel_rfl) (SX.out.then (drewU wx)) (fun hHeld=>?_)
   refine' tk 0 (.string s) rfl rfl (.inl ⟨by rfl,fun u hu=>(by go_simp)⟩) hHeld ?_
   simp only [sq1,sq0]
   refine' tk 1 (.int .i64 k) rfl rfl (.inl ⟨by rfl,fun u hu=>(by go_simp)⟩) hHeld ?_
   simp only [sq1,sq0]
   refine' tk 5 (.pointer (some ⟨w1.heap.size,0,none⟩)) rfl rfl (.inl ⟨by rfl,fun u hu=>(by go_simp)⟩) hHeld ?_
   simp only [sq1,sq0]
   refine' tk 6 (.int .i64 on) rfl rfl (.inl ⟨by rfl,fun u hu=>(by have hc:=RowT.cell (Sr.row hu) Z0.out;go_simp)⟩) hHeld ?_
   simp only [sq1,sq0]
   refine' tk 7 (.pointer (some ⟨0,on,none⟩)) rfl rfl (.inl ⟨by rfl,fun u hu=>(by have h1:(on:Int)<31:=(by omega);have h2:¬ (31:Int)≤(on:Int):=(by omega);go_simp)⟩) hHeld ?_
   simp only [sq1,sq0]
   refine' tk 8 (.string kw) rfl rfl (.inl ⟨by rfl,fun u hu=>(by have hc:=HWC.out u (Sr.below hu);go_simp)⟩) hHeld ?_
   simp only [sq1,sq0]
   have SD:=Hd (SX.out.then (drewU wx))
   refine rd1 2 rfl (fun K hK=>?_)
   go_simp
   refine (HIK.out _).mono ?_
   rintro e w2 ⟨rfl,hbC⟩
   have S2:=Hd (SD.out.then hbC)
   refine hK.out _ _ S2.out (fun hHeld1=>?_)
   clear hK K hbC hHeld
   have hHeld:=hHeld1
   clear hHeld1
   refine' tk 3 (.string (s++ka)) rfl rfl (.inl ⟨by rfl,fun u hu=>(by go_simp;all_goals omega)⟩) hHeld ?_
   simp only [sq1,sq0]
   refine' tk 4 (.string (s++ka++⟨#[58,32]⟩)) rfl rfl (.inl ⟨by rfl,fun u hu=>(by go_simp;all_goals omega)⟩) hHeld ?_
   simp only [sq1,sq0]
   refine' tk 9 (.string (s++ka++⟨#[58,32]⟩++kw)) rfl rfl (.inl ⟨by rfl,fun u hu=>(by go_simp;all_goals omega)⟩) hHeld ?_
   simp only [sq1,sq0]
   refine rd1 10 rfl (fun K hK=>?_)
   go_simp
   refine hK.out _ _ hHeld (fun hHeldx=>?_)
   clear hK K hHeldx hHeld
   refine wpAnyH_done (by kernel_rfl) ?_ _
   obtain ⟨s2,hs2⟩:∃ s2,s++ka++⟨#[58,32]⟩++kw=s2:=⟨_,rfl⟩
   have hz2:s2.size≤10800000000058:=by rw [← hs2];simp only [ByteArray.size_append];show s.size+ka.size+2+kw.size≤_;omega
   rw [hs2]
   have HS2:=Hd hs2
   clear hs2
   have f0:=S2.out.row.cell Z0.out
   have f1:=S2.out.row.cell Z1.out
   have f2:=S2.out.row.cell Z2.out
   have f3:=S2.out.row.cell Z3.out
   go_wp2_with fail
   refine (HIA.out w2).mono ?_
   rintro e w5 ⟨rfl,hbC⟩
   have S5:=Hd (S2.out.then hbC)
   clear hbC f0 f1 f2 f3
   have f0:=S5.out.row.cell Z0.out
   have f1:=S5.out.row.cell Z1.out
   have f2:=S5.out.row.cell Z2.out
   have f3:=S5.out.row.cell Z3.out
   have q5a:(s2++⟨#[32]⟩:ByteArray).size+aa.size≤9223372036854775807:=by rw [ByteArray.size_append];show s2.size+1+aa.size≤_;omega
   obtain ⟨s5,hs5⟩:∃ s9,s2++⟨#[32]⟩++aa=s9:=⟨_,rfl⟩
   have hz5:s5.size≤10800000000078:=by rw [← hs5];simp only [ByteArray.size_append];show s2.size+1+aa.size≤_;omega
   have HS5:=Hd hs5
   go_wp2_with fail
   go_roundw
   case rel=>exact ⟨k+1,s5++⟨#[10]⟩,by go_num,by omega,rfl,Hd (by rw [HFIN.out,HL2.out,← HS5.out,← HS2.out];simp only [ByteArray.append_assoc,ba_append_nil]),S5.out.below |> Lib.hid⟩
   case measure=>simp [intOf];omega
  ·obtain ⟨c1,c2,c3,c4⟩:=hcl
   have t1:(ra != 0)=true:=by have h:ra≠0:=fun e=>c1 (HRA.out.1 e);simpa using h
   have t2:(ub != 0)=false:=by simp [c2]
   have t3:((on:Int)==1)=false:=by simpa using c4
   have HC3:=Hd c3
   have HC4:=Hd c4
   have HN0:=Hd (show strOfNums []=⟨#[]⟩ from rfl)
   have HNN:=Hd (show strOfNums (32::quoI x.name)=⟨#[32]⟩++quoteS x.name by rw [show (32::quoI x.name)=[32]++quoI x.name from rfl,strNums_app];rfl)
   have HL2:=Hd (show strOfNums (lineT k x)=ka++⟨#[58,32]⟩++kw++(⟨#[32]⟩++aa)++⟨#[]⟩++(⟨#[32]⟩++quoteS x.name)++⟨#[]⟩++⟨#[10]⟩ by rw [HLI.out];unfold argT namT valT;rw [HON.out,if_neg c1,HAA.out,if_pos c2,if_pos c3,HNN.out,if_neg c4];try rfl)
   clear c1 c2 c4
   rw [c3]
   clear c3
   go_wp2_with fail
   refine wp_region_held_drew (S:=fun u=>Sr wb.heap.size w1.heap.size cs wb u) (by kernel_rfl) (SX.out.then (drewU wx)) (fun hHeld=>?_)
   refine' tk 0 (.string s) rfl rfl (.inl ⟨by rfl,fun u hu=>(by go_simp)⟩) hHeld ?_
   simp only [sq1,sq0]
   refine' tk 1 (.int .i64 k) rfl rfl (.inl ⟨by rfl,fun u hu=>(by go_simp)⟩) hHeld ?_
   simp only [sq1,sq0]
   refine' tk 5 (.pointer (some ⟨w1.heap.size,0,none⟩)) rfl rfl (.inl ⟨by rfl,fun u hu=>(by go_simp)⟩) hHeld ?_
   simp only [sq1,sq0]
   refine' tk 6 (.int .i64 on) rfl rfl (.inl ⟨by rfl,fun u hu=>(by have hc:=RowT.cell (Sr.row hu) Z0.out;go_simp)⟩) hHeld ?_
   simp only [sq1,sq0]
   refine' tk 7 (.pointer (some ⟨0,on,none⟩)) rfl rfl (.inl ⟨by rfl,fun u hu=>(by have h1:(on:Int)<31:=(by omega);have h2:¬ (31:Int)≤(on:Int):=(by omega);go_simp)⟩) hHeld ?_
   simp only [sq1,sq0]
   refine' tk 8 (.string kw) rfl rfl (.inl ⟨by rfl,fun u hu=>(by have hc:=HWC.out u (Sr.below hu);go_simp)⟩) hHeld ?_
   simp only [sq1,sq0]
   have SD:=Hd (SX.out.then (drewU wx))
   refine rd1 2 rfl (fun K hK=>?_)
   go_simp
   refine (HIK.out _).mono ?_
   rintro e w2 ⟨rfl,hbC⟩
   have S2:=Hd (SD.out.then hbC)
   refine hK.out _ _ S2.out (fun hHeld1=>?_)
   clear hK K hbC hHeld
   have hHeld:=hHeld1
   clear hHeld1
   refine' tk 3 (.string (s++ka)) rfl rfl (.inl ⟨by rfl,fun u hu=>(by go_simp;all_goals omega)⟩) hHeld ?_
   simp only [sq1,sq0]
   refine' tk 4 (.string (s++ka++⟨#[58,32]⟩)) rfl rfl (.inl ⟨by rfl,fun u hu=>(by go_simp;all_goals omega)⟩) hHeld ?_
   simp only [sq1,sq0]
   refine' tk 9 (.string (s++ka++⟨#[58,32]⟩++kw)) rfl rfl (.inl ⟨by rfl,fun u hu=>(by go_simp;all_goals omega)⟩) hHeld ?_
   simp only [sq1,sq0]
   refine rd1 10 rfl (fun K hK=>?_)
   go_simp
   refine hK.out _ _ hHeld (fun hHeldx=>?_)
   clear hK K hHeldx hHeld
   refine wpAnyH_done (by kernel_rfl) ?_ _
   obtain ⟨s2,hs2⟩:∃ s2,s++ka++⟨#[58,32]⟩++kw=s2:=⟨_,rfl⟩
   have hz2:s2.size≤10800000000058:=by rw [← hs2];simp only [ByteArray.size_append];show s.size+ka.size+2+kw.size≤_;omega
   rw [hs2]
   have HS2:=Hd hs2
   clear hs2
   have f0:=S2.out.row.cell Z0.out
   have f1:=S2.out.row.cell Z1.out
   have f2:=S2.out.row.cell Z2.out
   have f3:=S2.out.row.cell Z3.out
   go_wp2_with fail
   refine (HIA.out w2).mono ?_
   rintro e w5 ⟨rfl,hbC⟩
   have S5:=Hd (S2.out.then hbC)
   clear hbC f0 f1 f2 f3
   have f0:=S5.out.row.cell Z0.out
   have f1:=S5.out.row.cell Z1.out
   have f2:=S5.out.row.cell Z2.out
   have f3:=S5.out.row.cell Z3.out
   have q5a:(s2++⟨#[32]⟩:ByteArray).size+aa.size≤9223372036854775807:=by rw [ByteArray.size_append];show s2.size+1+aa.size≤_;omega
   obtain ⟨s5,hs5⟩:∃ s9,s2++⟨#[32]⟩++aa=s9:=⟨_,rfl⟩
   have hz5:s5.size≤10800000000078:=by rw [← hs5];simp only [ByteArray.size_append];show s2.size+1+aa.size≤_;omega
   have HS5:=Hd hs5
   have hqn:=Hd (HXO.out.name (by rw [HON.out];exact HC3.out)).2
   have HQ:=Hd (fun u=>quoted_r x.name u (by have:=hqn.out;omega))
   have hzq:=quoteS_size x.name
   have hzq2:(quoteS x.name).size≤6146:=by have:=hqn.out;omega
   clear hzq
   obtain ⟨zq,hzq⟩:∃ zq,quoteS x.name=zq:=⟨_,rfl⟩
   rw [hzq] at HQ hzq2 HL2
   clear hzq
   go_wp2_with fail
   refine (HQ.out w5).mono ?_
   rintro e w7 ⟨rfl,hbC⟩
   have S7:=Hd (S5.out.then hbC)
   clear hbC f0 f1 f2 f3
   have f0:=S7.out.row.cell Z0.out
   have f1:=S7.out.row.cell Z1.out
   have f2:=S7.out.row.cell Z2.out
   have f3:=S7.out.row.cell Z3.out
   have q7a:(s5++⟨#[32]⟩:ByteArray).size+zq.size≤9223372036854775807:=by rw [ByteArray.size_append];show s5.size+1+zq.size≤_;omega
   obtain ⟨s7,hs7⟩:∃ s9,s5++⟨#[32]⟩++zq=s9:=⟨_,rfl⟩
   have hz7:s7.size≤10800000006298:=by rw [← hs7];simp only [ByteArray.size_append];show s5.size+1+zq.size≤_;omega
   have HS7:=Hd hs7
   go_wp2_with fail
   go_roundw
   case rel=>exact ⟨k+1,s7++⟨#[10]⟩,by go_num,by omega,rfl,Hd (by rw [HFIN.out,HL2.out,← HS7.out,← HS5.out,← HS2.out];simp only [ByteArray.append_assoc,ba_append_nil]),S7.out.below |> Lib.hid⟩
   case measure=>simp [intOf];omega
  ·obtain ⟨c1,c2,c3,c4⟩:=hcl
   have t1:(ra != 0)=true:=by have h:ra≠0:=fun e=>c1 (HRA.out.1 e);simpa using h
   have t2:(ub != 0)=true:=by simpa using c2
   have t3:((on:Int)==1)=false:=by simpa using c4
   have HC3:=Hd c3
   have HC4:=Hd c4
   have HN0:=Hd (show strOfNums []=⟨#[]⟩ from rfl)
   have HL2:=Hd (show strOfNums (lineT k x)=ka++⟨#[58,32]⟩++kw++(⟨#[32]⟩++aa)++(⟨#[32]⟩++ba)++⟨#[]⟩++⟨#[]⟩++⟨#[10]⟩ by rw [HLI.out];unfold argT namT valT;rw [HON.out,if_neg c1,HAA.out,if_neg c2,HBA.out,if_neg (by rw [c3];decide),if_neg c4];try rfl)
   clear c1 c2 c4
   rw [c3]
   clear c3
   go_wp2_with fail
   refine wp_region_held_drew (S:=fun u=>Sr wb.heap.size w1.heap.size cs wb u) (by kernel_rfl) (SX.out.then (drewU wx)) (fun hHeld=>?_)
   refine' tk 0 (.string s) rfl rfl (.inl ⟨by rfl,fun u hu=>(by go_simp)⟩) hHeld ?_
   simp only [sq1,sq0]
   refine' tk 1 (.int .i64 k) rfl rfl (.inl ⟨by rfl,fun u hu=>(by go_simp)⟩) hHeld ?_
   simp only [sq1,sq0]
   refine' tk 5 (.pointer (some ⟨w1.heap.size,0,none⟩)) rfl rfl (.inl ⟨by rfl,fun u hu=>(by go_simp)⟩) hHeld ?_
   simp only [sq1,sq0]
   refine' tk 6 (.int .i64 on) rfl rfl (.inl ⟨by rfl,fun u hu=>(by have hc:=RowT.cell (Sr.row hu) Z0.out;go_simp)⟩) hHeld ?_
   simp only [sq1,sq0]
   refine' tk 7 (.pointer (some ⟨0,on,none⟩)) rfl rfl (.inl ⟨by rfl,fun u hu=>(by have h1:(on:Int)<31:=(by omega);have h2:¬ (31:Int)≤(on:Int):=(by omega);go_simp)⟩) hHeld ?_
   simp only [sq1,sq0]
   refine' tk 8 (.string kw) rfl rfl (.inl ⟨by rfl,fun u hu=>(by have hc:=HWC.out u (Sr.below hu);go_simp)⟩) hHeld ?_
   simp only [sq1,sq0]
   have SD:=Hd (SX.out.then (drewU wx))
   refine rd1 2 rfl (fun K hK=>?_)
   go_simp
   refine (HIK.out _).mono ?_
   rintro e w2 ⟨rfl,hbC⟩
   have S2:=Hd (SD.out.then hbC)
   refine hK.out _ _ S2.out (fun hHeld1=>?_)
   clear hK K hbC hHeld
   have hHeld:=hHeld1
   clear hHeld1
   refine' tk 3 (.string (s++ka)) rfl rfl (.inl ⟨by rfl,fun u hu=>(by go_simp;all_goals omega)⟩) hHeld ?_
   simp only [sq1,sq0]
   refine' tk 4 (.string (s++ka++⟨#[58,32]⟩)) rfl rfl (.inl ⟨by rfl,fun u hu=>(by go_simp;all_goals omega)⟩) hHeld ?_
   simp only [sq1,sq0]
   refine' tk 9 (.string (s++ka++⟨#[58,32]⟩++kw)) rfl rfl (.inl ⟨by rfl,fun u hu=>(by go_simp;all_goals omega)⟩) hHeld ?_
   simp only [sq1,sq0]
   refine rd1 10 rfl (fun K hK=>?_)
   go_simp
   refine hK.out _ _ hHeld (fun hHeldx=>?_)
   clear hK K hHeldx hHeld
   refine wpAnyH_done (by kernel_rfl) ?_ _
   obtain ⟨s2,hs2⟩:∃ s2,s++ka++⟨#[58,32]⟩++kw=s2:=⟨_,rfl⟩
   have hz2:s2.size≤10800000000058:=by rw [← hs2];simp only [ByteArray.size_append];show s.size+ka.size+2+kw.size≤_;omega
   rw [hs2]
   have HS2:=Hd hs2
   clear hs2
   have f0:=S2.out.row.cell Z0.out
   have f1:=S2.out.row.cell Z1.out
   have f2:=S2.out.row.cell Z2.out
   have f3:=S2.out.row.cell Z3.out
   go_wp2_with fail
   refine (HIA.out w2).mono ?_
   rintro e w5 ⟨rfl,hbC⟩
   have S5:=Hd (S2.out.then hbC)
   clear hbC f0 f1 f2 f3
   have f0:=S5.out.row.cell Z0.out
   have f1:=S5.out.row.cell Z1.out
   have f2:=S5.out.row.cell Z2.out
   have f3:=S5.out.row.cell Z3.out
   have q5a:(s2++⟨#[32]⟩:ByteArray).size+aa.size≤9223372036854775807:=by rw [ByteArray.size_append];show s2.size+1+aa.size≤_;omega
   obtain ⟨s5,hs5⟩:∃ s9,s2++⟨#[32]⟩++aa=s9:=⟨_,rfl⟩
   have hz5:s5.size≤10800000000078:=by rw [← hs5];simp only [ByteArray.size_append];show s2.size+1+aa.size≤_;omega
   have HS5:=Hd hs5
   go_wp2_with fail
   refine (HIB.out w5).mono ?_
   rintro e w6 ⟨rfl,hbC⟩
   have S6:=Hd (S5.out.then hbC)
   clear hbC f0 f1 f2 f3
   have f0:=S6.out.row.cell Z0.out
   have f1:=S6.out.row.cell Z1.out
   have f2:=S6.out.row.cell Z2.out
   have f3:=S6.out.row.cell Z3.out
   have q6a:(s5++⟨#[32]⟩:ByteArray).size+ba.size≤9223372036854775807:=by rw [ByteArray.size_append];show s5.size+1+ba.size≤_;omega
   obtain ⟨s6,hs6⟩:∃ s9,s5++⟨#[32]⟩++ba=s9:=⟨_,rfl⟩
   have hz6:s6.size≤10800000000098:=by rw [← hs6];simp only [ByteArray.size_append];show s5.size+1+ba.size≤_;omega
   have HS6:=Hd hs6
   go_wp2_with fail
   go_roundw
   case rel=>exact ⟨k+1,s6++⟨#[10]⟩,by go_num,by omega,rfl,Hd (by rw [HFIN.out,HL2.out,← HS6.out,← HS5.out,← HS2.out];simp only [ByteArray.append_assoc,ba_append_nil]),S6.out.below |> Lib.hid⟩
   case measure=>simp [intOf];omega
end Go.Proofs.YtniljgkkcnekgaaGreatDoor
