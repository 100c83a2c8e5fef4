/- builtin.Arity, unary, Apply: at join. -/
import Derived.Test.YtagkjofpncpcpaaGreatDoorProg
import Derived.Test.YtagkjofpncpcpaaGreatDoorGA
import Derived.Test.YtagkjofpncpcpaaGreatDoorGB
import Derived.Test.YtagkjofpncpcpaaGreatDoorGD
import Derived.Test.YtagkjofpncpcpaaGreatDoorRow36
import Derived.Test.YtagkjofpncpcpaaGreatDoorXA
import Derived.Test.YtagkjofpncpcpaaGreatDoorXI
import Derived.Test.YtagkjofpncpcpaaGreatDoorXK
import Derived.Test.YtagkjofpncpcpaaGreatDoorAE
import Derived.Test.YtagkjofpncpcpaaGreatDoorJA
import Derived.Test.YtagkjofpncpcpaaGreatDoorJnb37
import Derived.Test.YtagkjofpncpcpaaGreatDoorAL
namespace Go.Proofs.YtagkjofpncpcpaaGreatDoor
open Go.RowKit
set_option maxRecDepth 100000 in
theorem arity_join (w:World):Calls Tryz.prog 13 #[.string ⟨#[106,111,105,110]⟩] w (fun e w'=>e=.returned (.tuple #[.int .i64 1,.bool true])∧w'=w):=by
 go_enter Tryz.func13,Tryz.ntmps13
 go_wp2_with fail
 go_ret2
 exact ⟨rfl,rfl⟩
set_option maxRecDepth 100000 in
set_option maxHeartbeats 3200000 in
theorem unary_join (s t:ByteArray) (ql:List ByteArray) (w:World) (B N:Nat) (cs ds:List Value) (hq:ql≠[]) (hj:joinT t ql=s.data.toList) (hN:N≤4294967296) (hsN:s.size≤N) (hlN:ql.length≤N) (hB:B≤w.heap.size) (hv:ValD.At w B N (lisD (ql.map textD)) cs) (hu:ValD.At w B N (textD t) ds) :
 Calls Tryz.prog 14 #[.string ⟨#[106,111,105,110]⟩,.agg cs.toArray,.agg ds.toArray] w (ResR B N (resD (textD s)) w):=by
 obtain ⟨_,_,_,_,_,_,hh⟩:=hv.has
 obtain ⟨_,_,_,_,_,_,hg⟩:=hu.has
 have hz1:=Hd (show (Tryz.prog.info? 30).map (·.size)=some cs.length by rw [hv.len];exact sizeV)
 have hT:=Hd (tval w cs ds [.int .i64 0,.bool false,.bool false,.string ⟨#[]⟩,.int .i64 0,.int .i64 0,.int .i64 0,.int .i64 0,.int .i64 0,.string ⟨#[]⟩,.slice none 0 0,.slice none 0 0,.slice none 0 0])
 have ek:=hT.out.one.cell (show cs[0]?=some (.int .i64 6) from hh.kind)
 have fk:=hT.out.two.cell (show ds[0]?=some (.int .i64 4) from hg.kind)
 have ft:=hT.out.two.cell (show ds[9]?=some (.string t) from hg.text)
 have HV:=Hd hv
 have HJ:=Hd hj
 have HQN:=Hd hq
 clear hv hu hh hg hj hq
 go_enter Tryz.func14,Tryz.ntmps14
 go_wp2_with ((with_reducible show wpList _ _ _ (⟨some 50,_,_,_,_,_⟩::_) _ _);refine wpList_load_mid rfl 30 _ rfl (w.heap.size) 0 rfl cs _ hT.out.one.range Tryz.underlying30 rfl hz1.out ?_)
 refine (join_p s t ql _ B B N cs HQN.out HJ.out hN hsN hlN (Nat.le_trans hB hT.out.below.size) (Nat.le_trans hB hT.out.below.size) (HV.out.below (hT.out.below.mono hB))).mono ?_
 rintro e wE ⟨xs,rfl,hsol,hb⟩
 obtain ⟨r,hr⟩:∃ r,r=resD (textD s):=⟨_,rfl⟩
 rw [← hr] at hsol ⊢
 have HR:=Hd hr
 have hlen:=hsol.here.len
 have AT:=Hd hsol.here
 have S1:=Hd hsol
 have hT1:=Hd (hT.out.later hb)
 clear hsol hb hr ek fk ft
 obtain ⟨rv,rk⟩:=r
 go_wp2_with ((with_reducible show wpList _ _ _ (⟨none,.store 30 (.tmp 6) _,_,_,_,_⟩::_) _ _);refine wpList_store_row rfl 30 _ _ rfl (w.heap.size+1+1) xs.toArray rfl rfl 30 zeroV hT1.out.res (row_size hlen) (row_zero hlen) (row_ones AT.out) ?_)
 refine bodyPost_ret (results_cell_row2 rfl _ _ (w.heap.size+1+1) 30 _ (0,0) _ rfl (hT1.out.put xs).res Tryz.underlying30 rfl (row_size hlen)) rfl ?_
 rw [← HR.out]
 exact res_intoB hB hT.out hT1.out S1.out
set_option maxRecDepth 100000 in
set_option maxHeartbeats 3200000 in
theorem apply_join (s t:ByteArray) (ql:List ByteArray) (w:World) (B N:Nat) (cs ds:List Value) (hq:ql≠[]) (hj:joinT t ql=s.data.toList) (hN:N≤4294967296) (hsN:s.size≤N) (hlN:ql.length≤N) (hB:B≤w.heap.size) (hv:ValD.At w B N (lisD (ql.map textD)) cs) (hu:ValD.At w B N (textD t) ds) (ab ao ac:Nat) (hab:ab<B) (had:CellsAt w ab ao ds) :
 Calls Tryz.prog 7 #[.string ⟨#[106,111,105,110]⟩,.agg cs.toArray,.slice (some ⟨ab,ao,none⟩) 1 ac] w (ResR B N (resD (textD s)) w):=by
 have hz1:=Hd (show (Tryz.prog.info? 30).map (·.size)=some cs.length by rw [hv.len];exact sizeV)
 have hz2:=Hd (show (Tryz.prog.info? 30).map (·.size)=some ds.length by rw [hu.len];exact sizeV)
 have HV:=Hd hv
 have HU:=Hd hu
 have HJ:=Hd hj
 have HQN:=Hd hq
 have HAD:=Hd had
 have HT0:=Hd (show Below w.heap.size w ((w.alloc (.cells cs.toArray 30)).alloc (.cells #[.int .i64 0,.bool false,.bool false,.string ⟨#[]⟩,.int .i64 0,.int .i64 0,.int .i64 0,.int .i64 0,.int .i64 0,.string ⟨#[]⟩,.slice none 0 0,.slice none 0 0,.slice none 0 0] 30))∧RowT 30 ((w.alloc (.cells cs.toArray 30)).alloc (.cells #[.int .i64 0,.bool false,.bool false,.string ⟨#[]⟩,.int .i64 0,.int .i64 0,.int .i64 0,.int .i64 0,.int .i64 0,.string ⟨#[]⟩,.slice none 0 0,.slice none 0 0,.slice none 0 0] 30)) w.heap.size cs∧RowAt ((w.alloc (.cells cs.toArray 30)).alloc (.cells #[.int .i64 0,.bool false,.bool false,.string ⟨#[]⟩,.int .i64 0,.int .i64 0,.int .i64 0,.int .i64 0,.int .i64 0,.string ⟨#[]⟩,.slice none 0 0,.slice none 0 0,.slice none 0 0] 30)) (w.heap.size+1) zeroV.toList from by
  refine ⟨belowThen (belowBox w _) (belowBox _ _),(RowT.new w 30 cs).alloc _,?_⟩
  have h:=heap_alloc_new (w.alloc (.cells cs.toArray 30)) (.cells #[.int .i64 0,.bool false,.bool false,.string ⟨#[]⟩,.int .i64 0,.int .i64 0,.int .i64 0,.int .i64 0,.int .i64 0,.string ⟨#[]⟩,.slice none 0 0,.slice none 0 0,.slice none 0 0] 30)
  rw [World.size_alloc] at h
  exact h)
 have HS0:=Hd (show ((w.alloc (.cells cs.toArray 30)).alloc (.cells #[.int .i64 0,.bool false,.bool false,.string ⟨#[]⟩,.int .i64 0,.int .i64 0,.int .i64 0,.int .i64 0,.int .i64 0,.string ⟨#[]⟩,.slice none 0 0,.slice none 0 0,.slice none 0 0] 30)).heap.size=w.heap.size+2 by rw [World.size_alloc,World.size_alloc])
 clear hv hu hj hq had
 go_enter Tryz.func7,Tryz.ntmps7
 go_wp2_with fail
 refine (arity_join _).mono ?_
 rintro e wC ⟨rfl,rfl⟩
 go_wp2_with fail
 refine wp_region_held_drew (S:=fun q=>Below w.heap.size w q∧RowT 30 q w.heap.size cs) (by kernel_rfl) ⟨HT0.out.1.trans (drewB _),HT0.out.2.1.drew⟩ (fun hHeld=>?_)
 have HZ0:=Hd (show RowT 30 ((w.alloc (.cells cs.toArray 30)).alloc (.cells #[.int .i64 0,.bool false,.bool false,.string ⟨#[]⟩,.int .i64 0,.int .i64 0,.int .i64 0,.int .i64 0,.int .i64 0,.string ⟨#[]⟩,.slice none 0 0,.slice none 0 0,.slice none 0 0] 30)).drew (w.heap.size+1) zeroV.toList from HT0.out.2.2)
 have HS1:=Hd (show ((w.alloc (.cells cs.toArray 30)).alloc (.cells #[.int .i64 0,.bool false,.bool false,.string ⟨#[]⟩,.int .i64 0,.int .i64 0,.int .i64 0,.int .i64 0,.int .i64 0,.string ⟨#[]⟩,.slice none 0 0,.slice none 0 0,.slice none 0 0] 30)).drew.heap.size=w.heap.size+2 from HS0.out)
 refine wpAnyH_takeU (i:=0) (v:=.string ⟨#[106,111,105,110]⟩) 26 rfl rfl (by kernel_rfl) (by kernel_rfl) (by kernel_rfl) (fun _ _ _ h=>h) (Or.inl ⟨by kernel_rfl,fun u hu=>by go_simp⟩) (by assumption) ?_
 simp only [sq1,sq0]
 refine wpAnyH_takeU (i:=1) (v:=.agg cs.toArray) 27 rfl rfl (by kernel_rfl) (by kernel_rfl) (by kernel_rfl) (fun _ _ _ h=>h) ?_ (by assumption) ?_
 ·exact yieldsIf_load_mid (by kernel_rfl) 30 _ rfl w.heap.size 0 (by kernel_rfl) cs _ (fun u hu=>hu.2.range) Tryz.underlying30 rfl hz1.out
 simp only [sq1,sq0]
 refine wpAnyH_takeU (i:=2) (v:=.slice (some ⟨ab,ao,none⟩) 1 ac) 28 rfl rfl (by kernel_rfl) (by kernel_rfl) (by kernel_rfl) (fun _ _ _ h=>h) (Or.inl ⟨by kernel_rfl,fun u hu=>by go_simp⟩) (by assumption) ?_
 simp only [sq1,sq0]
 refine wpAnyH_takeU (i:=3) (v:=.pointer (some ⟨ab,ao,none⟩)) 29 rfl rfl (by kernel_rfl) (by kernel_rfl) (by kernel_rfl) (fun _ _ _ h=>h) (Or.inl ⟨by kernel_rfl,fun u hu=>by go_simp⟩) (by assumption) ?_
 simp only [sq1,sq0]
 refine wpAnyH_takeU (i:=4) (v:=.agg ds.toArray) 30 rfl rfl (by kernel_rfl) (by kernel_rfl) (by kernel_rfl) (fun _ _ _ h=>h) ?_ (by assumption) ?_
 ·exact yieldsIf_load_mid (by kernel_rfl) 30 _ rfl ab ao (by kernel_rfl) ds _ (fun u hu=>(HAD.out.below (hu.1.mono hB) hab).range) Tryz.underlying30 rfl hz2.out
 simp only [sq1,sq0]
 refine rd1 5 rfl (fun K hK=>?_)
 go_simp
 refine (unary_join s t ql _ B N cs ds HQN.out HJ.out hN hsN hlN (Nat.le_trans hB hHeld.1.size) (HV.out.below (hHeld.1.mono hB)) (HU.out.below (hHeld.1.mono hB))).mono ?_
 rintro e wE ⟨xs,rfl,hsol,hb⟩
 obtain ⟨r,hr⟩:∃ r,r=resD (textD s):=⟨_,rfl⟩
 rw [← hr] at hsol ⊢
 have HR:=Hd hr
 have hlen:=hsol.here.len
 have AT:=Hd hsol.here
 have S1:=Hd hsol
 have hHE:Below w.heap.size w wE∧RowT 30 wE w.heap.size cs:=⟨belowThen hHeld.1 hb,hHeld.2.then hb⟩
 have ZE:=Hd (HZ0.out.then hb)
 refine hK.out _ _ hHE (fun _=>?_)
 clear hK K hsol hb hr hHeld
 obtain ⟨rv,rk⟩:=r
 dsimp only
 refine wpAnyH_takeU (i:=6) (v:=.agg xs.toArray) 32 rfl rfl (by kernel_rfl) (by kernel_rfl) (by kernel_rfl) (fun _ _ _ h=>h) (Or.inl ⟨by kernel_rfl,fun u hu=>by go_simp⟩) (by assumption) ?_
 simp only [sq1,sq0]
 refine wpAnyH_takeU (i:=7) (v:=.int .i64 rk) 33 rfl rfl (by kernel_rfl) (by kernel_rfl) (by kernel_rfl) (fun _ _ _ h=>h) (Or.inl ⟨by kernel_rfl,fun u hu=>by go_simp⟩) (by assumption) ?_
 simp only [sq1,sq0]
 refine rd1 8 rfl (fun K hK=>?_)
 rw [if_pos (by rfl)]
 refine wp_store_atL rfl 30 _ _ rfl (w.heap.size+1) 0 xs rfl rfl 30 _ xs ZE.out (by rw [hlen];exact sizeV) (row_new hlen rfl) (by rw [hlen];exact Nat.le_refl 13) AT.out.oneCell ?_
 have hHF:Below w.heap.size w (wE.setRow (w.heap.size+1) xs.toArray)∧RowT 30 (wE.setRow (w.heap.size+1) xs.toArray) w.heap.size cs:=⟨below_setRow hHE.1 (by omega) _,hHE.2.setRowOther (by omega) _⟩
 refine hK.out _ _ hHF (fun _=>?_)
 clear hK K
 refine rd1 9 rfl (fun K hK=>?_)
 rw [if_pos (by rfl)]
 go_simp
 refine hK.out _ _ hHF (fun _=>?_)
 clear hK K
 refine wpAnyH_done (by kernel_rfl) ?_ _
 have HBF:=Hd hHF.1
 clear hHF hHE
 go_wp2_with fail
 refine bodyPost_ret (results_cell_row2 rfl _ _ (w.heap.size+1) 30 _ (0,0) _ rfl (setRow_heap _ _ _ _ _ _ ZE.out) Tryz.underlying30 rfl (row_size hlen)) rfl ?_
 rw [← HR.out]
 refine ⟨xs,rfl,fun d hd=>S1.out d ?_,HBF.out⟩
 exact (Apart.of_setRow0 xs.toArray (by omega) (by rw [HS1.out];omega)).after hd (by rw [HS1.out];omega)
end Go.Proofs.YtagkjofpncpcpaaGreatDoor
