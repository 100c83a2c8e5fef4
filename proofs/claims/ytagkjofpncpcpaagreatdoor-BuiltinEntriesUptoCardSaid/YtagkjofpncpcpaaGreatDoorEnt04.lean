/- value.Bool, builtin.has, builtin.unary and Apply at has. -/
import Derived.Test.YtagkjofpncpcpaaGreatDoorProg
import Derived.Test.YtagkjofpncpcpaaGreatDoorGA
import Derived.Test.YtagkjofpncpcpaaGreatDoorGB
import Derived.Test.YtagkjofpncpcpaaGreatDoorGC
import Derived.Test.YtagkjofpncpcpaaGreatDoorGD
import Derived.Test.YtagkjofpncpcpaaGreatDoorRow36
import Derived.Test.YtagkjofpncpcpaaGreatDoorXA
import Derived.Test.YtagkjofpncpcpaaGreatDoorXD
import Derived.Test.YtagkjofpncpcpaaGreatDoorXI
import Derived.Test.YtagkjofpncpcpaaGreatDoorXK
import Derived.Test.YtagkjofpncpcpaaGreatDoorAE
import Derived.Test.YtagkjofpncpcpaaGreatDoorJA
import Derived.Test.YtagkjofpncpcpaaGreatDoorEB
namespace Go.Proofs.YtagkjofpncpcpaaGreatDoor
open Go.RowKit
def boolR (b:Bool):List Value:=[.int .i64 1,.bool b,.bool false,.string ⟨#[]⟩,.int .i64 0,.int .i64 0,.int .i64 0,.int .i64 0,.int .i64 0,.string ⟨#[]⟩,.slice none 0 0,.slice none 0 0,.slice none 0 0]
theorem boolR_one (b:Bool):∀ u∈boolR b,u.oneCell'=true:=fun u hu=>by
 simp [boolR] at hu
 rcases hu with rfl | rfl | rfl | rfl | rfl | rfl | rfl<;>rfl
set_option maxRecDepth 100000 in
set_option maxHeartbeats 1600000 in
theorem bool_prog (b:Bool) (w:World):Calls Tryz.prog 19 #[.bool b] w (fun e w'=>e=.returned (.agg (boolR b).toArray)∧Below w.heap.size w w'):=by
 have Z0:=Hd (heap_alloc_new w (.cells (boolR b).toArray 30))
 go_enter Tryz.func19,Tryz.ntmps19
 go_wp2_with fail
 refine bodyPost_ret (results_cell_row rfl _ _ w.heap.size 30 (boolR b).toArray (0,0) _ rfl Z0.out Tryz.underlying30 rfl (row_size rfl)) rfl ?_
 exact ⟨rfl,belowBox w _⟩
set_option maxRecDepth 100000 in
theorem arity_has (w:World):Calls Tryz.prog 13 #[.string ⟨#[104,97,115]⟩] w (fun e w'=>e=.returned (.tuple #[.int .i64 1,.bool true])∧w'=w):=by
 go_enter Tryz.func13,Tryz.ntmps13
 go_wp2_with fail
 go_ret2
 exact ⟨rfl,rfl⟩
set_option maxRecDepth 100000 in
set_option maxHeartbeats 3200000 in
theorem has_p (v:ValD) (key:ByteArray) (w:World) (B N:Nat) (cs ds:List Value) (h7:v.kind=7) (hf:fitsV 46 v) (hN:N≤4294967296) (hB:B≤w.heap.size) (hv:ValD.At w B N v cs) (hu:ValD.At w B N (textD key) ds) :
 Calls Tryz.prog 47 #[.agg cs.toArray,.agg ds.toArray] w (fun e w'=>e=.returned (.tuple #[.agg (boolR (fldP key v.fields).2).toArray,.int .i64 0])∧Below w.heap.size w w'):=by
 obtain ⟨_,_,_,_,_,_,hh⟩:=hv.has
 obtain ⟨_,_,_,_,_,_,hg⟩:=hu.has
 have hz1:=Hd (show (Tryz.prog.info? 30).map (·.size)=some cs.length by rw [hv.len];exact sizeV)
 have hT:=Hd (tval w cs ds [.int .i64 0,.bool false,.bool false,.string ⟨#[]⟩,.int .i64 0,.int .i64 0,.int .i64 0,.int .i64 0,.int .i64 0,.string ⟨#[]⟩,.slice none 0 0,.slice none 0 0,.slice none 0 0])
 have ek:=hT.out.one.cell (show cs[0]?=some (.int .i64 7) by rw [hh.kind,h7])
 have fk:=hT.out.two.cell (show ds[0]?=some (.int .i64 4) from hg.kind)
 have ft:=hT.out.two.cell (show ds[9]?=some (.string key) from hg.text)
 have HV:=Hd hv
 have HF:=Hd hf
 have H7:=Hd h7
 clear hv hu hh hg hf h7
 go_enter Tryz.func47,Tryz.ntmps47
 go_wp2_with ((with_reducible show wpList _ _ _ (⟨some 19,_,_,_,_,_⟩::_) _ _);refine wpList_load_mid rfl 30 _ rfl w.heap.size 0 rfl cs _ hT.out.one.range Tryz.underlying30 rfl hz1.out ?_)
 refine (field_b 45 v key _ B N cs (by omega) HF.out hN (Nat.le_trans hB hT.out.below.size) H7.out (HV.out.below (hT.out.below.mono hB))).mono ?_
 obtain ⟨r,hr⟩:∃ r,r=fldP key v.fields:=⟨_,rfl⟩
 rw [← hr]
 have HR:=Hd hr
 clear hr
 rintro e w1 ⟨fs,rfl,hsol,hb⟩
 have hlf:=hsol.here.len
 have HO:=Hd hsol.here.oneCell
 have hT1:=Hd ((hT.out.later hb).later (belowBox w1 (.cells fs.toArray 30)))
 clear hsol hb ek fk ft
 obtain ⟨rv,rb⟩:=r
 dsimp only
 go_wp2_with ((with_reducible show wpList _ _ _ (⟨none,.store 30 (.tmp 6) (.tmp 23),_,_,_,_⟩::_) _ _);refine wpList_store_new rfl 30 _ _ rfl zeroV fs.toArray rfl rfl (row_size hlf) (row_zero hlf) (Go.all_oneCell_toArray HO.out) ?_)
 refine (bool_prog rb _).mono ?_
 rintro e w2 ⟨rfl,hb⟩
 have hT2:=Hd (hT1.out.later hb)
 have hlb:(boolR rb).length=13:=rfl
 clear hb
 go_wp2_with ((with_reducible show wpList _ _ _ (⟨none,.store 30 (.tmp 4) _,_,_,_,_⟩::_) _ _);refine wpList_store_row rfl 30 _ _ rfl (w.heap.size+1+1) (boolR rb).toArray rfl rfl 30 zeroV hT2.out.res (row_size hlb) (row_zero hlb) (Go.all_oneCell_toArray (boolR_one rb)) ?_)
 refine bodyPost_ret (results_cell_row2 rfl _ _ (w.heap.size+1+1) 30 _ (0,0) _ rfl (hT2.out.put (boolR rb)).res Tryz.underlying30 rfl (row_size hlb)) rfl ?_
 rw [← HR.out]
 exact ⟨rfl,below_setRow hT2.out.below (by omega) _⟩
set_option maxRecDepth 100000 in
set_option maxHeartbeats 3200000 in
theorem unary_has (v:ValD) (key:ByteArray) (w:World) (B N:Nat) (cs ds:List Value) (h7:v.kind=7) (hf:fitsV 46 v) (hN:N≤4294967296) (hB:B≤w.heap.size) (hv:ValD.At w B N v cs) (hu:ValD.At w B N (textD key) ds) :
 Calls Tryz.prog 14 #[.string ⟨#[104,97,115]⟩,.agg cs.toArray,.agg ds.toArray] w (fun e w'=>e=.returned (.tuple #[.agg (boolR (fldP key v.fields).2).toArray,.int .i64 0])∧Below w.heap.size w w'):=by
 have hz1:=Hd (show (Tryz.prog.info? 30).map (·.size)=some cs.length by rw [hv.len];exact sizeV)
 have hz2:=Hd (show (Tryz.prog.info? 30).map (·.size)=some ds.length by rw [hu.len];exact sizeV)
 have hT:=Hd (tval w cs ds [.int .i64 0,.bool false,.bool false,.string ⟨#[]⟩,.int .i64 0,.int .i64 0,.int .i64 0,.int .i64 0,.int .i64 0,.string ⟨#[]⟩,.slice none 0 0,.slice none 0 0,.slice none 0 0])
 have HV:=Hd hv
 have HU:=Hd hu
 have HF:=Hd hf
 have H7:=Hd h7
 clear hv hu hf h7
 go_enter Tryz.func14,Tryz.ntmps14
 go_wp2_with (first
  | ((with_reducible show wpList _ _ _ (⟨some 16,_,_,_,_,_⟩::_) _ _);refine wpList_load_mid rfl 30 _ rfl w.heap.size 0 rfl cs _ hT.out.one.range Tryz.underlying30 rfl hz1.out ?_)
  | ((with_reducible show wpList _ _ _ (⟨some 17,_,_,_,_,_⟩::_) _ _);refine wpList_load_mid rfl 30 _ rfl (w.heap.size+1) 0 rfl ds _ hT.out.two.range Tryz.underlying30 rfl hz2.out ?_))
 refine (has_p v key _ B N cs ds H7.out HF.out hN (Nat.le_trans hB hT.out.below.size) (HV.out.below (hT.out.below.mono hB)) (HU.out.below (hT.out.below.mono hB))).mono ?_
 obtain ⟨rb,hr⟩:∃ r,r=(fldP key v.fields).2:=⟨_,rfl⟩
 rw [← hr]
 have HR:=Hd hr
 clear hr
 rintro e w2 ⟨rfl,hb⟩
 have hT2:=Hd (hT.out.later hb)
 have hlb:(boolR rb).length=13:=rfl
 clear hb
 go_wp2_with ((with_reducible show wpList _ _ _ (⟨none,.store 30 (.tmp 6) _,_,_,_,_⟩::_) _ _);refine wpList_store_row rfl 30 _ _ rfl (w.heap.size+1+1) (boolR rb).toArray rfl rfl 30 zeroV hT2.out.res (row_size hlb) (row_zero hlb) (Go.all_oneCell_toArray (boolR_one rb)) ?_)
 refine bodyPost_ret (results_cell_row2 rfl _ _ (w.heap.size+1+1) 30 _ (0,0) _ rfl (hT2.out.put (boolR rb)).res Tryz.underlying30 rfl (row_size hlb)) rfl ?_
 rw [← HR.out]
 exact ⟨rfl,below_setRow hT2.out.below (by omega) _⟩
set_option maxRecDepth 100000 in
set_option maxHeartbeats 3200000 in
theorem apply_has (v:ValD) (key:ByteArray) (w:World) (B N:Nat) (cs ds:List Value) (h7:v.kind=7) (hf:fitsV 46 v) (hN:N≤4294967296) (hB:B≤w.heap.size) (hv:ValD.At w B N v cs) (hu:ValD.At w B N (textD key) ds) (ab ao ac:Nat) (hab:ab<B) (had:CellsAt w ab ao ds) :
 Calls Tryz.prog 7 #[.string ⟨#[104,97,115]⟩,.agg cs.toArray,.slice (some ⟨ab,ao,none⟩) 1 ac] w (fun e w'=>e=.returned (.tuple #[.agg (boolR (fldP key v.fields).2).toArray,.int .i64 0])∧Below w.heap.size w w'):=by
 have hz1:=Hd (show (Tryz.prog.info? 30).map (·.size)=some cs.length by rw [hv.len];exact sizeV)
 have hz2:=Hd (show (Tryz.prog.info? 30).map (·.size)=some ds.length by rw [hu.len];exact sizeV)
 have HV:=Hd hv
 have HU:=Hd hu
 have HF:=Hd hf
 have H7:=Hd h7
 have HAD:=Hd had
 have HT0:=Hd (show Below w.heap.size w ((w.alloc (.cells cs.toArray 30)).alloc (.cells #[.int .i64 0,.bool false,.bool false,.string ⟨#[]⟩,.int .i64 0,.int .i64 0,.int .i64 0,.int .i64 0,.int .i64 0,.string ⟨#[]⟩,.slice none 0 0,.slice none 0 0,.slice none 0 0] 30))∧RowT 30 ((w.alloc (.cells cs.toArray 30)).alloc (.cells #[.int .i64 0,.bool false,.bool false,.string ⟨#[]⟩,.int .i64 0,.int .i64 0,.int .i64 0,.int .i64 0,.int .i64 0,.string ⟨#[]⟩,.slice none 0 0,.slice none 0 0,.slice none 0 0] 30)) w.heap.size cs∧RowAt ((w.alloc (.cells cs.toArray 30)).alloc (.cells #[.int .i64 0,.bool false,.bool false,.string ⟨#[]⟩,.int .i64 0,.int .i64 0,.int .i64 0,.int .i64 0,.int .i64 0,.string ⟨#[]⟩,.slice none 0 0,.slice none 0 0,.slice none 0 0] 30)) (w.heap.size+1) zeroV.toList from by
  refine ⟨belowThen (belowBox w _) (belowBox _ _),(RowT.new w 30 cs).alloc _,?_⟩
  have h:=heap_alloc_new (w.alloc (.cells cs.toArray 30)) (.cells #[.int .i64 0,.bool false,.bool false,.string ⟨#[]⟩,.int .i64 0,.int .i64 0,.int .i64 0,.int .i64 0,.int .i64 0,.string ⟨#[]⟩,.slice none 0 0,.slice none 0 0,.slice none 0 0] 30)
  rw [World.size_alloc] at h
  exact h)
 have HS0:=Hd (show ((w.alloc (.cells cs.toArray 30)).alloc (.cells #[.int .i64 0,.bool false,.bool false,.string ⟨#[]⟩,.int .i64 0,.int .i64 0,.int .i64 0,.int .i64 0,.int .i64 0,.string ⟨#[]⟩,.slice none 0 0,.slice none 0 0,.slice none 0 0] 30)).heap.size=w.heap.size+2 by rw [World.size_alloc,World.size_alloc])
 clear hv hu hf h7 had
 go_enter Tryz.func7,Tryz.ntmps7
 go_wp2_with fail
 refine (arity_has _).mono ?_
 rintro e wC ⟨rfl,rfl⟩
 go_wp2_with fail
 refine wp_region_held_drew (S:=fun q=>Below w.heap.size w q∧RowT 30 q w.heap.size cs) (by kernel_rfl) ⟨HT0.out.1.trans (drewB _),HT0.out.2.1.drew⟩ (fun hHeld=>?_)
 have HZ0:=Hd (show RowT 30 ((w.alloc (.cells cs.toArray 30)).alloc (.cells #[.int .i64 0,.bool false,.bool false,.string ⟨#[]⟩,.int .i64 0,.int .i64 0,.int .i64 0,.int .i64 0,.int .i64 0,.string ⟨#[]⟩,.slice none 0 0,.slice none 0 0,.slice none 0 0] 30)).drew (w.heap.size+1) zeroV.toList from HT0.out.2.2)
 have HS1:=Hd (show ((w.alloc (.cells cs.toArray 30)).alloc (.cells #[.int .i64 0,.bool false,.bool false,.string ⟨#[]⟩,.int .i64 0,.int .i64 0,.int .i64 0,.int .i64 0,.int .i64 0,.string ⟨#[]⟩,.slice none 0 0,.slice none 0 0,.slice none 0 0] 30)).drew.heap.size=w.heap.size+2 from HS0.out)
 refine wpAnyH_takeU (i:=0) (v:=.string ⟨#[104,97,115]⟩) 26 rfl rfl (by kernel_rfl) (by kernel_rfl) (by kernel_rfl) (fun _ _ _ h=>h) (Or.inl ⟨by kernel_rfl,fun u hu=>by go_simp⟩) (by assumption) ?_
 simp only [sq1,sq0]
 refine wpAnyH_takeU (i:=1) (v:=.agg cs.toArray) 27 rfl rfl (by kernel_rfl) (by kernel_rfl) (by kernel_rfl) (fun _ _ _ h=>h) ?_ (by assumption) ?_
 ·exact yieldsIf_load_mid (by kernel_rfl) 30 _ rfl w.heap.size 0 (by kernel_rfl) cs _ (fun u hu=>hu.2.range) Tryz.underlying30 rfl hz1.out
 simp only [sq1,sq0]
 refine wpAnyH_takeU (i:=2) (v:=.slice (some ⟨ab,ao,none⟩) 1 ac) 28 rfl rfl (by kernel_rfl) (by kernel_rfl) (by kernel_rfl) (fun _ _ _ h=>h) (Or.inl ⟨by kernel_rfl,fun u hu=>by go_simp⟩) (by assumption) ?_
 simp only [sq1,sq0]
 refine wpAnyH_takeU (i:=3) (v:=.pointer (some ⟨ab,ao,none⟩)) 29 rfl rfl (by kernel_rfl) (by kernel_rfl) (by kernel_rfl) (fun _ _ _ h=>h) (Or.inl ⟨by kernel_rfl,fun u hu=>by go_simp⟩) (by assumption) ?_
 simp only [sq1,sq0]
 refine wpAnyH_takeU (i:=4) (v:=.agg ds.toArray) 30 rfl rfl (by kernel_rfl) (by kernel_rfl) (by kernel_rfl) (fun _ _ _ h=>h) ?_ (by assumption) ?_
 ·exact yieldsIf_load_mid (by kernel_rfl) 30 _ rfl ab ao (by kernel_rfl) ds _ (fun u hu=>(HAD.out.below (hu.1.mono hB) hab).range) Tryz.underlying30 rfl hz2.out
 simp only [sq1,sq0]
 refine rd1 5 rfl (fun K hK=>?_)
 go_simp
 refine (unary_has v key _ B N cs ds H7.out HF.out hN (Nat.le_trans hB hHeld.1.size) (HV.out.below (hHeld.1.mono hB)) (HU.out.below (hHeld.1.mono hB))).mono ?_
 obtain ⟨rb,hr⟩:∃ r,r=(fldP key v.fields).2:=⟨_,rfl⟩
 rw [← hr]
 have HR:=Hd hr
 rintro e wE ⟨rfl,hb⟩
 have hlen:(boolR rb).length=13:=rfl
 have hHE:Below w.heap.size w wE∧RowT 30 wE w.heap.size cs:=⟨belowThen hHeld.1 hb,hHeld.2.then hb⟩
 have ZE:=Hd (HZ0.out.then hb)
 refine hK.out _ _ hHE (fun _=>?_)
 clear hK K hb hr hHeld
 refine wpAnyH_takeU (i:=6) (v:=.agg (boolR rb).toArray) 32 rfl rfl (by kernel_rfl) (by kernel_rfl) (by kernel_rfl) (fun _ _ _ h=>h) (Or.inl ⟨by kernel_rfl,fun u hu=>by go_simp⟩) (by assumption) ?_
 simp only [sq1,sq0]
 refine wpAnyH_takeU (i:=7) (v:=.int .i64 0) 33 rfl rfl (by kernel_rfl) (by kernel_rfl) (by kernel_rfl) (fun _ _ _ h=>h) (Or.inl ⟨by kernel_rfl,fun u hu=>by go_simp⟩) (by assumption) ?_
 simp only [sq1,sq0]
 refine rd1 8 rfl (fun K hK=>?_)
 rw [if_pos (by rfl)]
 refine wp_store_atL rfl 30 _ _ rfl (w.heap.size+1) 0 (boolR rb) rfl rfl 30 _ (boolR rb) ZE.out (by rw [hlen];exact sizeV) (row_new hlen rfl) (by rw [hlen];exact Nat.le_refl 13) (boolR_one rb) ?_
 have hHF:Below w.heap.size w (wE.setRow (w.heap.size+1) (boolR rb).toArray)∧RowT 30 (wE.setRow (w.heap.size+1) (boolR rb).toArray) w.heap.size cs:=⟨below_setRow hHE.1 (by omega) _,hHE.2.setRowOther (by omega) _⟩
 refine hK.out _ _ hHF (fun _=>?_)
 clear hK K
 refine rd1 9 rfl (fun K hK=>?_)
 rw [if_pos (by rfl)]
 go_simp
 refine hK.out _ _ hHF (fun _=>?_)
 clear hK K
 refine wpAnyH_done (by kernel_rfl) ?_ _
 have HBF:=Hd hHF.1
 clear hHF hHE
 go_wp2_with fail
 refine bodyPost_ret (results_cell_row2 rfl _ _ (w.heap.size+1) 30 _ (0,0) _ rfl (setRow_heap _ _ _ _ _ _ ZE.out) Tryz.underlying30 rfl (row_size hlen)) rfl ?_
 rw [← HR.out]
 exact ⟨rfl,HBF.out⟩
end Go.Proofs.YtagkjofpncpcpaaGreatDoor
