/- canon.text and canon.Text. -/
import Derived.Test.YtniljgkkcnekgaaGreatDoorProg
import Derived.Test.YtniljgkkcnekgaaGreatDoorGA
import Derived.Test.YtniljgkkcnekgaaGreatDoorGB
import Derived.Test.YtniljgkkcnekgaaGreatDoorShelf
import Derived.Test.YtniljgkkcnekgaaGreatDoorGF
import Derived.Test.YtniljgkkcnekgaaGreatDoorGC
import Derived.Test.YtniljgkkcnekgaaGreatDoorChkp
import Derived.Test.YtniljgkkcnekgaaGreatDoorGZ
import Derived.Test.YtniljgkkcnekgaaGreatDoorSA
import Derived.Test.YtniljgkkcnekgaaGreatDoorSE
import Derived.Test.YtniljgkkcnekgaaGreatDoorBL
import Derived.Test.YtniljgkkcnekgaaGreatDoorCN
import Derived.Test.YtniljgkkcnekgaaGreatDoorWR
import Derived.Test.YtniljgkkcnekgaaGreatDoorCX
import Derived.Test.YtniljgkkcnekgaaGreatDoorWrm41
import Derived.Test.YtniljgkkcnekgaaGreatDoorSF
namespace Go.Proofs.YtniljgkkcnekgaaGreatDoor
namespace Stb
end Stb
open Go.RowKit Stb
theorem numL_bytes {l:List Int} (h:∀ x∈l,0≤x∧x≤255):numL l=Lib.byteCells (l.map fun n=>UInt8.ofNat n.toNat):=by
 unfold numL Lib.byteCells
 rw [List.map_map]
 refine List.map_congr_left fun x hx=>?_
 have:=h x hx
 show Value.int .u8 x=Value.int .u8 ((UInt8.ofNat x.toNat).toNat:Nat)
 rw [UInt8.toNat_ofNat_of_lt' (by show x.toNat<256;omega)]
 congr 1
 omega
theorem bld_new (w:World):BldS (w.heap.size+1) w.heap.size (w.alloc (.cells #[.pointer none,.slice none 0 0] 96)) (.slice none 0 0) [] :=
 ⟨.inl (RowT.new w 96 [.pointer none,.slice none 0 0]),World.ownsRow_nil _ _ _ _,Nat.lt_succ_self _,by rw [World.size_alloc];exact Nat.le_refl _⟩
theorem BldS.is {L b:Nat} {w:World} {s:Value} {bs:List Value} (h:BldS L b w s bs):Lib.IsBuilder 96 5 b b bs w:=by
 have hne:s.ownBlock≠some b:=fun e=>by have:=(h.own.lt b e).1;have:=h.lt;omega
 have hown:w.ownsRow b 5 1 s bs.length bs:=by
  refine ⟨h.own.1,?_⟩
  rcases h.own.2 with hn | ⟨g,cap,cur,e,h1,rest⟩
  ·exact .inl hn
  ·exact .inr ⟨g,cap,cur,e,by have:=h.lt;omega,rest⟩
 rcases h.row with hr | hr
 ·exact .inl ⟨Nat.le_refl _,s,hr,hown,hne⟩
 ·exact .inr ⟨Nat.le_refl _,s,hr,hown,hne⟩
theorem canW_sorted_len {m:Nat} {v:ValD} (h:okK m v):(canW m (sortD m v))=canC m v:=can_sorted m v h.okC
set_option maxRecDepth 100000 in
set_option maxHeartbeats 3200000 in
theorem ctext_p (n:Nat) (v:ValD) (w:World) (B N:Nat) (cs:List Value) (hn:n≤65536) (hok:okK n v) (hN:N≤4294967296) (hB:B≤w.heap.size) (hv:ValD.At w B N v cs) (hl:(canC n v).length≤140737480000000) :
 Calls Tryz.prog 34 #[.agg cs.toArray] w (StrB (strOfNums (canC n v)) w):=by
 obtain ⟨wa,hwa⟩:∃ wa,wa=w.alloc (.cells cs.toArray 39):=⟨_,rfl⟩
 have HWA:=Hd hwa
 have RA:=Hd (show RowT 39 wa w.heap.size cs by rw [hwa];exact RowT.new w 39 cs)
 have HA:=Hd (show Below w.heap.size w wa by rw [hwa];exact belowBox w _)
 have HS1:=Hd (show wa.heap.size=w.heap.size+1 by rw [hwa,World.size_alloc])
 obtain ⟨wb,hwb⟩:∃ wb,wb=wa.alloc (.cells #[.pointer none,.slice none 0 0] 96):=⟨_,rfl⟩
 have HWB:=Hd hwb
 have HSB:=Hd (show wb.heap.size=wa.heap.size+1 by rw [hwb,World.size_alloc])
 have SB:=Hd (show BldS (wa.heap.size+1) wa.heap.size wb (.slice none 0 0) [] by rw [hwb];exact bld_new wa)
 have HB1:=Hd (show Below wa.heap.size wa wb by rw [hwb];exact belowBox wa _)
 have RB:=Hd (RA.out.then HB1.out)
 have HV:=Hd ((hv.below (HA.out.mono hB)).below (HB1.out.mono (Nat.le_trans hB HA.out.size)))
 have HBB:=Hd (Nat.le_trans (Nat.le_trans hB HA.out.size) HB1.out.size)
 have hi5:=Hd (show (Tryz.prog.info? 39).map (·.size)=some cs.length by rw [hv.len];exact sizeV)
 have HOK:=Hd hok
 have HL:=Hd hl
 have HR:=Hd (canW_sorted_len hok)
 have HRG:=Hd (canC_range n v)
 clear hwa hwb hv hok hl
 go_enter Tryz.func34,Tryz.ntmps34
 go_wp2_with ((with_reducible show wpList _ _ _ (⟨some 4,_,_,_,_,_⟩::_) _ _);refine wpList_load_mid rfl 39 _ rfl w.heap.size 0 rfl cs _ (by have h:=RB.out.range;rw [HWB.out,HWA.out] at h;exact h) Tryz.underlying39 rfl hi5.out ?_)
 rw [← HWA.out,← HWB.out]
 refine (sorted_v n v wb B N cs hn HOK.out.okC hN HBB.out HV.out).mono ?_
 rintro e w2 ⟨ds,rfl,hst,hb2⟩
 have S2:=Hd (show BldS w2.heap.size wa.heap.size w2 (.slice none 0 0) [] from by
  have h:=SB.out.later hb2
  exact ⟨h.row,World.ownsRow_nil _ _ _ _,Nat.lt_of_lt_of_le h.lt h.le,Nat.le_refl _⟩)
 have D2:=Hd (show HoldB w2.heap.size wa.heap.size N (sortD n v) ds w2 from ⟨Nat.le_refl _,fun c h1 h2=>hst c h1 fun q q1 q2=>h2 q q2 (by have h3:=HSB.out;omega)⟩)
 have B2:=Hd (show Below w.heap.size w w2 from belowThen (belowThen HA.out HB1.out) hb2)
 clear hst hb2
 go_wp2_with fail
 rw [HS1.out.symm]
 refine (wri_all n w2.heap.size wa.heap.size N w2 (.slice none 0 0) [] (sortD n v) ds hN (okW_sorted n v HOK.out) S2.out D2.out (by rw [HR.out];have:=HL.out;simp only [List.length_nil];omega)).mono ?_
 rintro e w3 ⟨rfl,s3,hs3,hf3⟩
 rw [HR.out,List.nil_append] at hs3
 have S3:=Hd hs3
 have B3:=Hd (B2.out.trans (hf3.below S2.out (B:=w.heap.size) (by have:=HS1.out;omega)))
 have IB:=Hd (show Lib.IsBuilder 96 5 wa.heap.size wa.heap.size (Lib.byteCells ((canC n v).map fun n=>UInt8.ofNat n.toNat)) w3 by rw [← numL_bytes HRG.out];exact hs3.is)
 have hle:=Hd (show wa.heap.size≤w3.heap.size from by have:=hs3.lt;have:=hs3.le;omega)
 clear hs3 hf3
 go_wp2_with fail
 refine (Tryz.Builder_String_any wa.heap.size wa.heap.size _ w3 IB.out hle.out).mono ?_
 rintro e w4 ⟨rfl,hb4⟩
 have B4:=Hd (B3.out.trans (hb4.mono (by have:=HS1.out;omega)))
 clear hb4
 go_wp2_with fail
 go_ret
 exact ⟨rfl,B4.out⟩
end Go.Proofs.YtniljgkkcnekgaaGreatDoor

/- canon.Text of a valid value; value.Text. -/
namespace Go.Proofs.YtniljgkkcnekgaaGreatDoor
open Go.RowKit Stb
def CTxR (v:ValD) (w:World) (e:Ending) (w':World):Prop:=e=.returned (.tuple #[.string (strOfNums (canC 48 v)),.int .i64 0])∧Below w.heap.size w w'
set_option maxRecDepth 100000 in
set_option maxHeartbeats 3200000 in
theorem cText_p (v:ValD) (hc:chkD v=0) (w:World) (B N:Nat) (cs:List Value) (hN:N≤4294967296) (hB:B≤w.heap.size) (hv:ValD.At w B N v cs) :
 Calls Tryz.prog 20 #[.agg cs.toArray] w (CTxR v w):=by
 have HL:=Hd (show (canC 48 v).length≤140737480000000 by have h1:=canC_len 48 v (okK_of 48 v 0 hc);have h2:=cnt_le hc;omega)
 have HOK:=Hd (okK_of 48 v 0 hc)
 have HC:=Hd hc
 obtain ⟨wa,hwa⟩:∃ wa,wa=w.alloc (.cells cs.toArray 39):=⟨_,rfl⟩
 have HWA:=Hd hwa
 have RA:=Hd (show RowT 39 wa w.heap.size cs by rw [hwa];exact RowT.new w 39 cs)
 have HA:=Hd (show Below w.heap.size w wa by rw [hwa];exact belowBox w _)
 have HV:=Hd (hv.below (HA.out.mono hB))
 have HBB:=Hd (Nat.le_trans hB HA.out.size)
 have hi5:=Hd (show (Tryz.prog.info? 39).map (·.size)=some cs.length by rw [hv.len];exact sizeV)
 clear hwa hv hc hB
 go_enter Tryz.func20,Tryz.ntmps20
 go_wp2_with ((with_reducible show wpList _ _ _ (⟨some 5,_,_,_,_,_⟩::_) _ _);refine wpList_load_mid rfl 39 _ rfl w.heap.size 0 rfl cs _ (by have h:=RA.out.range;rw [HWA.out] at h;exact h) Tryz.underlying39 rfl hi5.out ?_)
 rw [← HWA.out]
 refine (vcheck_exact v wa B N cs hN HBB.out HV.out).mono ?_
 rw [HC.out]
 rintro e w2 ⟨rfl,hb2⟩
 have R2:=Hd (RA.out.then hb2)
 have H2:=Hd (belowThen HA.out hb2)
 have HV2:=Hd (HV.out.below (hb2.mono HBB.out))
 have HB2:=Hd (Nat.le_trans HBB.out hb2.size)
 clear hb2
 go_wp2_with ((with_reducible show wpList _ _ _ (⟨some 10,_,_,_,_,_⟩::_) _ _);refine wpList_load_mid rfl 39 _ rfl w.heap.size 0 rfl cs _ R2.out.range Tryz.underlying39 rfl hi5.out ?_)
 refine (ctext_p 48 v w2 B N cs (by omega) HOK.out hN HB2.out HV2.out HL.out).mono ?_
 rintro e w3 ⟨rfl,hb3⟩
 have H3:=Hd (belowThen H2.out hb3)
 clear hb3
 go_wp2_with fail
 go_ret2
 exact ⟨rfl,H3.out⟩
def txtR (s:ByteArray):List Value:=[.int .i64 4,.bool false,.bool false,.string ⟨#[]⟩,.int .i64 0,.int .i64 0,.int .i64 0,.int .i64 0,.int .i64 0,.string s,.slice none 0 0,.slice none 0 0,.slice none 0 0]
theorem txtR_at (s:ByteArray) (w:World) (B N:Nat) (h:s.size≤N):ValD.At w B N (txtV s) (txtR s):=by
 have z4:I64 4:=⟨by omega,by omega⟩
 have z0:I64 0:=⟨by omega,by omega⟩
 have:=ValD.At.mk (w:=w) (B:=B) (N:=N) (v:=txtV s) (ya:=none) (la:=none) (va:=none) (yc:=0) (lc:=0) (vc:=0) ⟨z4,z0,z0,z0,z0,z0,Nat.zero_le _,h,Nat.zero_le _,Nat.zero_le _,Nat.zero_le _⟩ (.inl rfl) trivial trivial
 exact this
def TxtE (s:ByteArray) (w:World) (e:Ending) (w':World):Prop:=e=.returned (.agg (txtR s).toArray)∧Below w.heap.size w w'
set_option maxRecDepth 100000 in
set_option maxHeartbeats 3200000 in
theorem vtext_p (s:ByteArray) (w:World):Calls Tryz.prog 19 #[.string s] w (TxtE s w):=by
 have Z0:=Hd (RowT.new w 39 (txtR s))
 go_enter Tryz.func19,Tryz.ntmps19
 go_wp2_with fail
 refine bodyPost_ret (results_cell_row rfl _ _ w.heap.size 39 (txtR s).toArray (0,0) _ rfl Z0.out Tryz.underlying39 rfl (by kernel_rfl)) rfl ?_
 exact ⟨rfl,belowBox _ _⟩
end Go.Proofs.YtniljgkkcnekgaaGreatDoor
