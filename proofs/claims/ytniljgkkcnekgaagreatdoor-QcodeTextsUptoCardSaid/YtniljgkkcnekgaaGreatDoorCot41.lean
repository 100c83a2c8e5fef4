/- value.copied: the copy's parts lie in stretches of blocks of their own (printed by gencot.py). -/
import Derived.Test.YtniljgkkcnekgaaGreatDoorProg
import Derived.Test.YtniljgkkcnekgaaGreatDoorGA
import Derived.Test.YtniljgkkcnekgaaGreatDoorGB
import Derived.Test.YtniljgkkcnekgaaGreatDoorGC
import Derived.Test.YtniljgkkcnekgaaGreatDoorSA
import Derived.Test.YtniljgkkcnekgaaGreatDoorTre41
namespace Go.Proofs.YtniljgkkcnekgaaGreatDoor
open Go.RowKit
theorem TreeAt.wide {N n:Nat} {w:World} {S' E:Nat} {v:ValD} {cs:List Value} (S1:Nat) (h1:S'≤S1) (h:TreeAt N (n+1) w S1 E v cs):TreeAt N (n+1) w S' E v cs:=by
 obtain ⟨ya,la,va,yc,lc,vc,m1,m2,h1,h2,⟨h3,h4,h5,h6⟩,h7,h8,h9⟩:=h
 exact ⟨ya,la,va,yc,lc,vc,m1,m2,h1,h2,⟨by omega,h4,h5,h6⟩,fun c hc=>h7 c (hc.part (by omega) (Nat.le_refl _)),h8,h9⟩
theorem lie_at {w w5 w6:World} {m g n k sz a c:Nat} {t:TypeId} {s:Value} {xs ys:List Value} (h:w.ownsRow m t sz s k xs) (h6:w6.ownsRow m t sz (.slice (some ⟨g,0,none⟩) a c) n ys) (hlie:s.ownBlock=some g∨g=w5.heap.size+1) :
 m≤g∧(s.ownBlock=some g∧g<w.heap.size∨w5.heap.size≤g):=by
 refine ⟨(h6.lt g rfl).1,?_⟩
 rcases hlie with e | e
 ·exact .inl ⟨e,(h.lt g e).2⟩
 ·exact .inr (by omega)
def CopT (N n:Nat) (v:ValD) (w:World) (e:Ending) (w':World):Prop:=∃ cs:List Value,e=.returned (.agg cs.toArray)∧TreeAt N n w' w.heap.size w'.heap.size v cs∧Below w.heap.size w w'
set_option maxRecDepth 100000 in
set_option maxHeartbeats 6400000 in
theorem copied_t (n:Nat):∀ (v:ValD) (w:World) (B N:Nat) (cs:List Value) (left:Int),(n:Int)≤left→left≤65536→fitsV n v→N≤4294967296→B≤w.heap.size→ValD.At w B N v cs →
 Calls Tryz.prog 120 #[.agg cs.toArray,.int .i64 left] w (CopT N n v w):=by
 induction n with
 | zero=>intro v w B N cs left _ _ hf;exact hf.elim
 | succ n ih =>
   intro v w B N cs left hn1 hn2 hf hN hB hv
   obtain ⟨z0,hz0s,hinfo⟩:=infoV
   obtain ⟨i0,hi,hz0,hz1,hz2⟩:=info_parts hinfo
   have HI:=Hd hi
   have HZ0:=Hd hz0
   have HZ1:=Hd hz1
   have HZ2:=Hd hz2
   have HZS:=Hd hz0s
   clear hi hz0 hz1 hz2 hz0s hinfo
   obtain ⟨z1,hz0s,hinfo⟩:=infoF
   obtain ⟨i1,hi,hz0,hz1,hz2⟩:=info_parts hinfo
   have FI:=Hd hi
   have FZ0:=Hd hz0
   have FZ1:=Hd hz1
   have FZ2:=Hd hz2
   have FZS:=Hd hz0s
   clear hi hz0 hz1 hz2 hz0s hinfo
   obtain ⟨ya,la,va,yc,lc,vc,rfl,hown,hy,hl,hfl⟩:=hv.row
   have IH:=Hd ih
   have HF:=Hd hf
   have HV:=Hd hv
   have HY:=Hd hy
   have HL:=Hd hl
   have HFL:=Hd hfl
   have HOWN:=Hd hown
   have hyl:v.bytes.length≤N:=hown.2.2.2.2.2.2.2.2.1
   have hll:v.list.length≤N:=hown.2.2.2.2.2.2.2.2.2.1
   have hfll:v.fields.length≤N:=hown.2.2.2.2.2.2.2.2.2.2
   clear ih hf hv hy hl hfl hown
   obtain ⟨cs,hcs⟩:∃ cs,cs=v.row ya la va yc lc vc:=⟨_,rfl⟩
   have c10:cs[10]?=some (.slice ya v.bytes.length yc):=by rw [hcs];rfl
   have HCS:=Hd hcs
   rw [← hcs]
   clear hcs
   have H0:=Hd (show Below w.heap.size w ((w.alloc (.cells cs.toArray 39)).alloc (.cells zeroV 39)) from belowThen (belowBox w _) (belowBox _ _))
   go_enter Tryz.func120,Tryz.ntmps120
   go_wp2_with fail
   refine (clone_ex v.bytes ya yc B _ (by omega) (Nat.le_trans hB H0.out.size) (HY.out.below (H0.out.mono hB))).mono ?_
   rintro e w1 ⟨yb,yd,rfl,hsafe1,hb1⟩
   have hsz:((w.alloc (.cells cs.toArray 39)).alloc (.cells zeroV 39)).heap.size=w.heap.size+2:=by rw [World.size_alloc,World.size_alloc]
   have S1:=Hd (show BytesIn w1 (w.heap.size+2) w1.heap.size v.bytes yb from fun c hc=>hsafe1 c (by rw [hsz];exact ⟨hc.1,fun q h1 h2 _=>hc.2 q h1 h2⟩))
   have R0:=Hd (show RowAt w1 w.heap.size (v.row ya la va yc lc vc) from by
    rw [← HCS.out]
    refine RowAt.below (B:=w.heap.size+2) ?_ (by rw [← hsz];exact hb1) (by omega)
    refine RowAt.alloc ?_ (by rw [World.size_alloc];omega) _
    exact heap_alloc_new w _)
   have R1:=Hd (show RowAt w1 (w.heap.size+1) zeroV.toList from by
    refine RowAt.below (B:=w.heap.size+2) ?_ (by rw [← hsz];exact hb1) (by omega)
    have:=heap_alloc_new (w.alloc (.cells cs.toArray 39)) (.cells zeroV 39)
    rw [World.size_alloc] at this
    exact this)
   have H1:=Hd (belowThen H0.out hb1)
   have hs1:=hb1.size
   rw [hsz] at hs1
   clear hb1 hsz hsafe1 c10
   have c10:=R0.out.cell (show (v.row ya la va yc lc vc)[10]?=_ from rfl)
   have f10:=R0.out.frozen 10
   have R3:=Hd (show RowAt (w1.setCell ⟨w.heap.size,10,none⟩ (.slice yb v.bytes.length yd)) w.heap.size (v.row yb la va yd lc vc) from by
    unfold RowAt
    rw [heap_setCell_same w1 w.heap.size 10 _ _ _ R0.out]
    rfl)
   have R4:=Hd (show RowAt (w1.setCell ⟨w.heap.size,10,none⟩ (.slice yb v.bytes.length yd)) (w.heap.size+1) zeroV.toList from by
    unfold RowAt
    rw [heap_setCell_other _ _ _ _ (by simp)]
    exact R1.out)
   obtain ⟨w3,hw3⟩:∃ w3,w3=w1.setCell ⟨w.heap.size,10,none⟩ (.slice yb v.bytes.length yd):=⟨_,rfl⟩
   have hs13:w3.heap.size=w1.heap.size:=by rw [hw3];simp
   have S3:=Hd (show BytesIn w3 (w.heap.size+2) w3.heap.size v.bytes yb from by
    rw [hs13]
    exact S1.out.step (by rw [hw3];exact ⟨by simp,fun k h1 _=>heap_setCell_other _ _ _ _ (by simp;omega)⟩))
   have H3:=Hd (show Below w.heap.size w (w1.setCell ⟨w.heap.size,10,none⟩ (.slice yb v.bytes.length yd)) from H1.out.setCell (Nat.le_refl _) _)
   have hs3:w.heap.size+2≤(w1.setCell ⟨w.heap.size,10,none⟩ (.slice yb v.bytes.length yd)).heap.size:=by simpa using hs1
   have c11:=R3.out.cell (show (v.row yb la va yd lc vc)[11]?=_ from rfl)
   rw [← hw3] at R3 R4 H3 hs3
   have HW3:=Hd hw3
   obtain ⟨m1,hm1⟩:∃ m1,m1=w3.heap.size:=⟨_,rfl⟩
   have HM1:=Hd hm1
   rw [← hm1] at S3 hs3
   have HBS:=Hd (show Below m1 w3 w3 from Below.refl _ _)
   have hm1w:m1≤w3.heap.size:=by omega
   clear R0 R1 S1 H1 hs1 hw3 hs13 hm1
   have hns:¬ left<1:=by omega
   go_wp2_with fail
   rw [← HW3.out]
   go_simp
   go_loopw [5,23] (fun s i wr=>∃ (k:Nat) (xs:List Value),k≤v.list.length∧i=.int .i64 k∧wr.ownsRow m1 39 13 s k xs ∧
    Hid (Trees N n m1 s.ownBlock wr v.list k xs)∧Hid (Below m1 w3 wr) ∧
    Hid (RowAt wr w.heap.size (v.row yb la va yd lc vc))∧Hid (RowAt wr (w.heap.size+1) zeroV.toList)∧Hid (Below w.heap.size w wr)∧m1≤wr.heap.size)
    (fun _ i _=>v.list.length-(intOf i).toNat)
   case atStart=>exact ⟨0,[],by omega,rfl,World.ownsRow_nil _ _ _ _,Hd Trees.nil,HBS,R3,R4,H3,hm1w⟩
   case round =>
    obtain ⟨w4,rfl⟩:∃ w4,w4=wr:=⟨wr,rfl⟩
    clear HBS R3 R4 H3 hm1w c11 c10 f10 HW3
    obtain ⟨k,xs,hk,rfl,hown,HCH,S4,R4,R5,H4,hs4⟩:=hrel
    have HO:=Hd hown
    clear hown
    by_cases hlt:k<v.list.length
    ·obtain ⟨b,o,rfl,hb,hget⟩:=HL.out.get (by intro h;simp [h] at hlt)
     obtain ⟨cs1,h1,h2⟩:=hget k hlt
     have HR:=Hd (h1.below (H4.out.mono hB) hb).range
     have H5:=Hd (show ValD.At (w4.alloc (.cells cs1.toArray 39)) B N v.list[k] cs1 from h2.below ((belowThen H4.out (belowBox w4 _)).mono hB))
     have hl1:=Hd (show (Tryz.prog.info? 39).map (·.size)=some cs1.length by rw [h2.len];exact sizeV)
     have hl2:=Hd (show (Tryz.prog.info? 39).map (·.size)=some cs1.toArray.size by rw [List.size_toArray,h2.len];exact sizeV)
     have hl3:=Hd (show zeroV.size=cs1.toArray.size by show 13=cs1.toArray.size;rw [List.size_toArray,h2.len])
     have hone:=Hd (show cs1.toArray.all (·.oneCell')=true from Go.all_oneCell_toArray h2.oneCell)
     have HFC:=Hd (HF.out.1 v.list[k] (List.getElem_mem hlt))
     clear h1 h2 hget
     go_wp2_with (first
      | (refine wpList_load_mid rfl 39 _ rfl b (o+k * 13) rfl cs1 _ HR.out Tryz.underlying39 rfl hl1.out ?_)
      | (refine wpList_store_new rfl 39 _ _ rfl zeroV cs1.toArray rfl rfl hl2.out hl3.out hone.out ?_)
      | (refine wpList_load_mid rfl 39 _ rfl w4.heap.size 0 rfl cs1 _ (box_at w4 cs1 39).range Tryz.underlying39 rfl hl1.out ?_))
     have hbs:B≤(w4.alloc (.cells cs1.toArray 39)).heap.size:=by rw [World.size_alloc];omega
     refine (IH.out _ _ B N cs1 (left-1) (by omega) (by omega) HFC.out hN hbs H5.out).mono ?_
     rintro e w5 ⟨cs2,rfl,hsafe,hb5⟩
     have HS:=Hd hsafe
     have H6:=Hd hb5
     have hlen2:=hsafe.len
     have hfz:=fold_zip0 cs2 #[.int .i64 0,.bool false,.bool false,.string ⟨#[]⟩,.int .i64 0,.int .i64 0,.int .i64 0,.int .i64 0,.int .i64 0,.string ⟨#[]⟩,.slice none 0 0,.slice none 0 0,.slice none 0 0] hsafe.len.symm
     have HO5:=Hd (own_below' HO.out (belowThen (belowBox w4 _) hb5))
     have hs5:m1≤w5.heap.size:=by have:=hb5.size;rw [World.size_alloc] at this;omega
     clear hsafe hb5
     go_wp2_with (at_builtin;refine wpList_append_lies _ rfl _ _ 36 rfl m1 39 i0 (.agg z0) 13 168 Tryz.underlying36 HI.out HZ0.out HZ1.out HZ2.out HZS.out (by decide) _ _ _ rfl (HO5.out.alloc _) ⟨w5.heap.size,0,none⟩ 1 1 cs2 rfl HS.out.len ?c1 ?c2 (by decide) ?c3 ?c4 ?c5 _ rfl ?_)
     case c1 =>
      intro j u hj
      rw [addr_add',World.cell?_alloc_new]
      simpa using hj
     case c2=>exact HS.out.at.oneCell
     case c3=>unfold maxLen;omega
     case c4=>omega
     case c5=>rw [World.size_alloc];omega
     intro g cap w6 hown6 hgrow6 hlie6 hlt6
     have hf:=step_facts (L:=m1) hs4 (fun q hq=>HO.out.lt q hq) H6.out hgrow6 (by rw [World.size_alloc];exact hlie6)
     have HO6:=Hd hown6
     have hs6:m1≤w6.heap.size:=by have:=hf.2.2.size;omega
     have HSF:=Hd hf
     have HG6:=Hd (lie_at HO.out hown6 hlie6)
     clear hown6 hgrow6 hlie6 hf
     go_wp2
     go_roundw
     case rel =>
      refine ⟨k+1,xs++cs2,by omega,by go_num,HO6.out,Hd ?_,?_,?_,?_,?_,hs6⟩
      ·exact HCH.out.push HO.out.1 hlen2 HSF.out.1 (HG6.out.1) hs4 (by rw [World.size_alloc];omega) HS.out.size.1 rfl (fun _=>HS.out) HSF.out.2.1.1 HG6.out.2
      ·exact Hd (S4.out.trans (HSF.out.2.2))
      ·exact Hd (R4.out.below HSF.out.2.2 (by omega))
      ·exact Hd (R5.out.below HSF.out.2.2 (by omega))
      ·exact Hd (belowThen' H4.out HSF.out.2.2)
     case measure=>simp [intOf];omega
    ·obtain rfl:k=v.list.length:=by omega
     obtain ⟨lb,ld,rfl,hls⟩:=HCH.out.done HO.out
     have HLS:=Hd hls
     obtain ⟨m2,hm2⟩:∃ m2,m2=w4.heap.size:=⟨_,rfl⟩
     have HM2:=Hd hm2
     have HBT:=Hd (show Below m2 w4 w4 from Below.refl _ _)
     have hm2w:m2≤w4.heap.size:=by omega
     have hm12:m1≤m2:=by omega
     have c12:=R4.out.cell (show (v.row yb la va yd lc vc)[12]?=_ from rfl)
     clear hls HO HCH hm2
     go_wp2_with fail
     go_simp
     go_loopw [8,38] (fun s i wr=>∃ (k:Nat) (xs:List Value),k≤v.fields.length∧i=.int .i64 k∧wr.ownsRow m2 76 14 s k xs ∧
      Hid (TreesF N n m2 s.ownBlock wr v.fields k xs)∧Hid (Below m2 w4 wr) ∧
      Hid (RowAt wr w.heap.size (v.row yb la va yd lc vc))∧Hid (RowAt wr (w.heap.size+1) zeroV.toList)∧Hid (Below w.heap.size w wr)∧m2≤wr.heap.size)
      (fun _ i _=>v.fields.length-(intOf i).toNat)
     case atStart=>exact ⟨0,[],by omega,rfl,World.ownsRow_nil _ _ _ _,Hd TreesF.nil,HBT,R4,R5,H4,hm2w⟩
     case round =>
      obtain ⟨w7,rfl⟩:∃ w7,w7=wr:=⟨wr,rfl⟩
      clear HBT R4 R5 H4 hm2w c12
      obtain ⟨k,xs,hk,rfl,hown,HCH,S5,R4,R5,H4,hs4⟩:=hrel
      have HO:=Hd hown
      clear hown
      by_cases hlt:k<v.fields.length
      ·obtain ⟨b,o,rfl,hb,hget⟩:=HFL.out.get (by intro h;simp [h] at hlt)
       obtain ⟨cs1,hkey,h1,h2⟩:=hget k hlt
       obtain ⟨ky,hky⟩:∃ ky,ky=v.fields[k].1:=⟨_,rfl⟩
       rw [← hky] at h1 hkey
       have HKY:=Hd hky
       clear hky
       have HR:=Hd (h1.below (H4.out.mono hB) hb).range
       have HX:=Hd (show ValD.At (w7.alloc (.cells (.string ky::cs1).toArray 76)) B N v.fields[k].2 cs1 from h2.below ((belowThen H4.out (belowBox w7 _)).mono hB))
       have hlen1:=h2.len
       have hl1:=Hd (show (Tryz.prog.info? 76).map (·.size)=some (Value.string ky::cs1).length by rw [List.length_cons,h2.len];exact sizeF)
       have hl2:=Hd (show (Tryz.prog.info? 76).map (·.size)=some (Value.string ky::cs1).toArray.size by rw [List.size_toArray,List.length_cons,h2.len];exact sizeF)
       have hl3:=Hd (show zeroF.size=(Value.string ky::cs1).toArray.size by show 14=_;rw [List.size_toArray,List.length_cons,h2.len])
       have hl4:=Hd (show (Tryz.prog.info? 39).map (·.size)=some cs1.length by rw [h2.len];exact sizeV)
       have hone:=Hd (show (Value.string ky::cs1).toArray.all (·.oneCell')=true from Go.all_oneCell_toArray (fun u hu=>by
        rcases List.mem_cons.1 hu with rfl | hu
        ·rfl
        ·exact h2.oneCell u hu))
       have HFC:=Hd (HF.out.2 v.fields[k] (List.getElem_mem hlt))
       clear h1 h2 hget
       go_wp2_with (first
        | (refine wpList_load_mid rfl 76 _ rfl b (o+k * 14) rfl (.string ky::cs1) _ HR.out Tryz.underlying76 rfl hl1.out ?_)
        | (refine wpList_store_new rfl 76 _ _ rfl zeroF (.string ky::cs1).toArray rfl rfl hl2.out hl3.out hone.out ?_))
       have D3:=Hd (show Below (w7.alloc (.cells (.string ky::cs1).toArray 76)).heap.size (w7.alloc (.cells (.string ky::cs1).toArray 76)) (w7.alloc (.cells (.string ky::cs1).toArray 76)).drew from ⟨rfl,rfl,rfl,Nat.le_refl _,fun _ _=>rfl⟩)
       have hs7:w7.heap.size<(w7.alloc (.cells (.string ky::cs1).toArray 76)).heap.size:=by rw [World.size_alloc];omega
       refine wp_region_held_drew (S:=fun u=>CellsAt u w7.heap.size 0 (.string ky::cs1)) (by kernel_rfl) ((box_at w7 _ 76).below D3.out hs7) (fun hHeld=>?_)
       refine wpAnyH_take (i:=0) (v:=u8) rfl (by kernel_rfl) (by kernel_rfl) (by kernel_rfl) (fun _ _ _ h=>h) (Or.inl ⟨by rfl,fun u hu=>by go_simp⟩) (by assumption) ?_
       simp only [Act.put]
       refine wpAnyH_take (i:=1) (v:=.pointer (some ⟨w7.heap.size,0,none⟩)) rfl (by kernel_rfl) (by kernel_rfl) (by kernel_rfl) (fun _ _ _ h=>h) (Or.inl ⟨by rfl,fun u hu=>by go_simp⟩) (by assumption) ?_
       simp only [Act.put]
       refine wpAnyH_take (i:=2) (v:=.string ky) rfl (by kernel_rfl) (by kernel_rfl) (by kernel_rfl) (fun _ _ _ h=>h) (Or.inl ⟨by rfl,fun u hu=>by have hc:=CellsAt.get0 hu (show (Value.string ky::cs1)[0]?=some (.string ky) from rfl);go_simp⟩) (by assumption) ?_
       simp only [Act.put]
       refine wpAnyH_take (i:=3) (v:=.pointer (some ⟨w7.heap.size,1,none⟩)) rfl (by kernel_rfl) (by kernel_rfl) (by kernel_rfl) (fun _ _ _ h=>h) (Or.inl ⟨by rfl,fun u hu=>by go_simp⟩) (by assumption) ?_
       simp only [Act.put]
       refine' wpAnyH_take (i:=4) (v:=_) rfl (by kernel_rfl) (by kernel_rfl) (by kernel_rfl) (fun _ _ _ h=>h) (yieldsIf_load_mid (by rfl) 39 _ rfl w7.heap.size 1 rfl cs1 _ (fun u hu=>(CellsAt.tail hu).range) Tryz.underlying39 rfl hl4.out) (by assumption) ?_
       simp only [Act.put]
       refine wpAnyH_take (i:=5) (v:=.int .i64 left) rfl (by kernel_rfl) (by kernel_rfl) (by kernel_rfl) (fun _ _ _ h=>h) (Or.inl ⟨by rfl,fun u hu=>by go_simp⟩) (by assumption) ?_
       simp only [Act.put]
       refine wpAnyH_take (i:=6) (v:=.int .i64 (left-1)) rfl (by kernel_rfl) (by kernel_rfl) (by kernel_rfl) (fun _ _ _ h=>h) (Or.inl ⟨by rfl,fun u hu=>by go_simp;rw [IntKind.wrap_i64];omega⟩) (by assumption) ?_
       simp only [Act.put]
       refine rd1 7 rfl (fun K hK=>?_)
       go_simp
       have hbs:B≤(w7.alloc (.cells (.string ky::cs1).toArray 76)).heap.size:=by rw [World.size_alloc];omega
       refine (IH.out _ _ B N cs1 (left-1) (by omega) (by omega) HFC.out hN (Nat.le_trans hbs D3.out.size) (HX.out.below (D3.out.mono hbs))).mono ?_
       rintro e w5 ⟨cs2,rfl,hsafe,hb5⟩
       have HS:=Hd hsafe
       have H6:=Hd (belowThen D3.out hb5)
       refine hK.out _ _ (hHeld.below hb5 (Nat.lt_of_lt_of_le hs7 D3.out.size)) (fun hHeld1=>?_)
       clear hK K hb5 hsafe hHeld
       have hlen2:=HS.out.len
       have hfz1:=fold_zip1 ky cs2 hlen2
       have hfz2:=fold_zip2 ky cs2 hlen2
       refine rd1 8 rfl (fun K hK=>?_)
       go_simp
       refine hK.out _ _ hHeld1 (fun hHeld2=>?_)
       clear hK K hHeld2
       refine rd1 9 rfl (fun K hK=>?_)
       go_simp
       have hs8:w7.heap.size<w5.heap.size:=by have:=H6.out.size;omega
       refine hK.out _ _ (hHeld1.below (belowBox w5 _) hs8) (fun hHeld2=>?_)
       clear hK K hHeld1
       have HO5:=Hd (own_below' HO.out (belowThen (belowBox w7 _) H6.out))
       have hs5:m2≤w5.heap.size:=by omega
       refine rd1 10 rfl (fun K hK=>?_)
       refine step_append_lies _ rfl (.tmp 42) (.tmp 51) 37 rfl m2 76 i1 (.agg z1) 14 184 Tryz.underlying37 FI.out FZ0.out FZ1.out FZ2.out FZS.out (by decide) _ _ _ rfl (HO5.out.alloc _) ⟨w5.heap.size,0,none⟩ 1 1 (.string ky::cs2) rfl (by rw [List.length_cons,HS.out.len]) ?c1 ?c2 (by decide) ?c3 ?c4 ?c5 _ rfl ?_
       case c1 =>
        intro j u hj
        rw [addr_add',World.cell?_alloc_new]
        simpa using hj
       case c2 =>
        intro u hu
        rcases List.mem_cons.1 hu with rfl | hu
        ·rfl
        ·exact HS.out.at.oneCell u hu
       case c3=>unfold maxLen;omega
       case c4=>omega
       case c5=>rw [World.size_alloc];omega
       intro g cap w6 hown6 hgrow6 hlie6 hlt6
       have hf:=step_facts (L:=m2) hs4 (fun q hq=>HO.out.lt q hq) H6.out hgrow6 hlie6
       have HO6:=Hd hown6
       have hs6:m2≤w6.heap.size:=by have:=hf.2.2.size;omega
       have HSF:=Hd hf
       have hc6:CellsAt w6 w7.heap.size 0 (.string ky::cs1):=fun j hj=>by
        refine (hgrow6.cell_far ⟨w7.heap.size,0+j,none⟩ (by rw [World.size_alloc];show w7.heap.size<_;omega) ?_).trans (hHeld2 j hj)
        intro e
        have:=(HO.out.lt w7.heap.size e.symm).2
        omega
       have HC6:=Hd hc6
       refine hK.out _ _ hc6 (fun _=>?_)
       have HG6:=Hd (lie_at HO.out hown6 (hlie6.imp id (fun h=>h.trans (World.size_alloc _ _))))
       clear hK K hgrow6 hlie6 hown6 hf hc6 hHeld2
       simp only [Act.put]
       refine rd1 11 rfl (fun K hK=>?_)
       go_simp
       refine hK.out _ _ HC6.out (fun _=>?_)
       clear hK K
       refine wpAnyH_done (by kernel_rfl) ?_ _
       go_wp2_with fail
       go_roundw
       case rel =>
        refine ⟨k+1,xs++(.string ky::cs2),by omega,by go_num,HO6.out,Hd ?_,?_,?_,?_,?_,hs6⟩
        ·exact HCH.out.push HO.out.1 HS.out.len HSF.out.1 (HG6.out.1) hs4 (by show _≤(w7.alloc _).heap.size;rw [World.size_alloc];omega) HS.out.size.1 rfl (fun _=>⟨HKY.out.symm,hkey,HS.out⟩) HSF.out.2.1.1 HG6.out.2
        ·exact Hd (S5.out.trans HSF.out.2.2)
        ·exact Hd (R4.out.below HSF.out.2.2 (by omega))
        ·exact Hd (R5.out.below HSF.out.2.2 (by omega))
        ·exact Hd (belowThen' H4.out HSF.out.2.2)
       case measure=>simp [intOf];omega
      ·obtain rfl:k=v.fields.length:=by omega
       obtain ⟨fb,fd,rfl,hls⟩:=HCH.out.done HO.out
       have HFS:=Hd hls
       clear hls HO HCH
       have c11:=R4.out.cell (show (v.row yb la va yd lc vc)[11]?=_ from rfl)
       have c12:=R4.out.cell (show (v.row yb la va yd lc vc)[12]?=_ from rfl)
       have f11:=R4.out.frozen 11
       have f12:=R4.out.frozen 12
       have Q0:=Hd (show RowAt ((w7.setCell ⟨w.heap.size,11,none⟩ (.slice lb v.list.length ld)).setCell ⟨w.heap.size,12,none⟩ (.slice fb v.fields.length fd)) w.heap.size (v.row yb lb fb yd ld fd) from by
        unfold RowAt
        rw [heap_setCell_same _ w.heap.size 12 _ _ _ (heap_setCell_same w7 w.heap.size 11 _ _ _ R4.out),row_set1112])
       have Q1:=Hd (show RowAt ((w7.setCell ⟨w.heap.size,11,none⟩ (.slice lb v.list.length ld)).setCell ⟨w.heap.size,12,none⟩ (.slice fb v.fields.length fd)) (w.heap.size+1) zeroV.toList from by
        unfold RowAt
        rw [heap_setCell_other _ _ _ _ (by simp),heap_setCell_other _ _ _ _ (by simp)]
        exact R5.out)
       have H8:=Hd (show Below w.heap.size w ((w7.setCell ⟨w.heap.size,11,none⟩ (.slice lb v.list.length ld)).setCell ⟨w.heap.size,12,none⟩ (.slice fb v.fields.length fd)) from (H4.out.setCell (Nat.le_refl _) _).setCell (Nat.le_refl _) _)
       obtain ⟨w8,hw8⟩:∃ w8,w8=(w7.setCell ⟨w.heap.size,11,none⟩ (.slice lb v.list.length ld)).setCell ⟨w.heap.size,12,none⟩ (.slice fb v.fields.length fd):=⟨_,rfl⟩
       obtain ⟨ro,hro⟩:∃ ro,ro=v.row yb lb fb yd ld fd:=⟨_,rfl⟩
       have hrl:ro.length=13:=by rw [hro];rfl
       have hr1:ro.toArray.all (·.oneCell')=true:=by rw [hro];exact row_one _ _ _ _ _ _ _
       have hsr:=Hd (show (Tryz.prog.info? 39).map (·.size)=some ro.length by rw [hrl];exact sizeV)
       have hsr2:=Hd (show (Tryz.prog.info? 39).map (·.size)=some ro.toArray.size by rw [List.size_toArray,hrl];exact sizeV)
       have hsr3:=Hd (show zeroV.size=ro.toArray.size by show 13=_;rw [List.size_toArray,hrl])
       have hone:=Hd hr1
       have HRO:=Hd hro
       rw [← hw8,← hro] at Q0
       rw [← hw8] at Q1 H8
       have HW8:=Hd hw8
       clear hro hw8 hr1 hrl
       go_wp2_with (first
        | (rw [← HW8.out];refine wpList_load_mid rfl 39 _ rfl w.heap.size 0 rfl ro _ Q0.out.range Tryz.underlying39 rfl hsr.out ?_)
        | (refine wpList_store_row rfl 39 _ _ rfl (w.heap.size+1) ro.toArray rfl rfl 39 zeroV Q1.out hsr2.out hsr3.out hone.out ?_))
       refine bodyPost_ret (results_cell_row rfl _ _ (w.heap.size+1) 39 _ (0,0) _ rfl (setRow_heap _ _ _ _ _ _ Q1.out) Tryz.underlying39 rfl hsr2.out) rfl ?_
       refine ⟨ro,rfl,?_,below_setRow H8.out (by omega) _⟩
       have hsame:∀ E,Same (w.heap.size+2) E w7 (w8.setRow (w.heap.size+1) ro.toArray):=by
        rw [HW8.out]
        refine fun E=>⟨by simp,fun q h1 _=>?_⟩
        rw [setRow_other _ _ _ _ (by omega),heap_setCell_other _ _ _ _ (by simp;omega),heap_setCell_other _ _ _ _ (by simp;omega)]
       have hz:(w8.setRow (w.heap.size+1) ro.toArray).heap.size=w7.heap.size:=by rw [HW8.out];simp
       obtain ⟨w9,hw9⟩:∃ w9,w9=w8.setRow (w.heap.size+1) ro.toArray:=⟨_,rfl⟩
       rw [← hw9] at hsame hz ⊢
       have h37:Same (w.heap.size+2) m1 w3 w9:=Same.trans (b:=w7) ⟨(S4.out.trans (S5.out.mono hm12)).size,fun q _ h2=>(S4.out.trans (S5.out.mono hm12)).block q h2⟩ (hsame m1)
       have h47:Same (w.heap.size+2) m2 w4 w9:=Same.trans (b:=w7) ⟨S5.out.size,fun q _ h2=>S5.out.block q h2⟩ (hsame m2)
       refine TreeAt.wide (w.heap.size+2) (by omega) ⟨yb,lb,fb,yd,ld,fd,m1,m2,HRO.out,HOWN.out,⟨by omega,hm12,by omega,Nat.le_refl _⟩,S3.out.step h37,?_,?_⟩
       ·rcases HLS.out with h | ⟨g,f,tl,st,en,a1,a2,a3,a4,a5,a6⟩
        ·exact .inl h
        ·rw [← HM2.out] at a3 a5
         refine .inr ⟨g,f,tl,st,en,a1,a2,a3,⟨h47.row a4.row (by omega) a3,a4.len,a4.one⟩,a5,fun k hk=>?_⟩
         obtain ⟨b1,b2,b3,_⟩:=a5 k hk
         exact (a6 k hk).step (h47.part (by omega) b3)
       ·rcases HFS.out with h | ⟨g,f,tl,st,en,a1,a2,a3,a4,a5,a6⟩
        ·exact .inl h
        ·refine .inr ⟨g,f,tl,st,en,a1,a2,by omega,⟨(hsame w7.heap.size).row a4.row (by omega) a3,a4.len,a4.one,a4.key⟩,by rw [hz];exact a5,fun k hk=>?_⟩
         obtain ⟨b1,b2,b3,_⟩:=a5 k hk
         obtain ⟨ds,c1,c2,c3⟩:=a6 k hk
         exact ⟨ds,c1,c2,c3.step ((hsame w7.heap.size).part (by omega) b3)⟩
end Go.Proofs.YtniljgkkcnekgaaGreatDoor
