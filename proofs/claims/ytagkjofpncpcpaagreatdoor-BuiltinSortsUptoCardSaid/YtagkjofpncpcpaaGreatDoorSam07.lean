/- The reference's Same (datakitref07): of two copies of one value it says yes. -/
import Derived.Test.YtagkjofpncpcpaaGreatDoorProg
import Derived.Test.YtagkjofpncpcpaaGreatDoorGA
import Derived.Test.YtagkjofpncpcpaaGreatDoorGB
import Derived.Test.YtagkjofpncpcpaaGreatDoorGC
import Derived.Test.YtagkjofpncpcpaaGreatDoorGD
import Derived.Laws.BytesString
namespace Go.Proofs.YtagkjofpncpcpaaGreatDoor
open Go.RowKit
theorem conv_bytes {w:World} {B:Nat} {l:List Int} {a:Option Addr} (h:BytesAt w B l a) (c:Nat):(convert 27 9 (.slice a l.length c)).run Tryz.prog w=.ok (.string (strOfNums l)) w:=by
 rcases h with h | ⟨b,o,rfl,_,hc,_⟩
 ·subst h
  rw [List.length_nil,run_convert_bytes_string w 27 9 5 a 0 c Tryz.underlying27 Tryz.underlying5 Tryz.underlying9]
  cases a<;>simp [Conv.bytesToString,loadCells]
  all_goals rfl
 ·refine run_convert_bytes_arg _ 27 5 Tryz.underlying27 Tryz.underlying5 b o l.length c l rfl (fun i hi=>?_) 9 Tryz.underlying9
  have:=hc i (by simpa using hi)
  rw [this]
  simp [List.getElem?_eq_getElem hi]
theorem decB_self (d:DecD):decB d d=true:=by simp [decB]
theorem timeB_self (t:TimeD):timeB t t=true:=by simp [timeB]
set_option maxRecDepth 100000 in
set_option maxHeartbeats 6400000 in
theorem same_yes (n:Nat):∀ (v:ValD) (w:World) (B N:Nat) (cs ds:List Value),fitsV n v→N≤4294967296→B≤w.heap.size→ValD.At w B N v cs→ValD.At w B N v ds →
 Calls Tryz.prog 8 #[.agg cs.toArray,.agg ds.toArray] w (YesB w):=by
 induction n with
 | zero=>intro v w B N cs ds hf;exact hf.elim
 | succ n ih =>
   intro v w B N cs ds hf hN hB hv hu
   have IH:=Hd ih
   have HF:=Hd hf
   have E1:=eqDEC v.num v.num
   have E2:=eqTIME v.time v.time
   rw [decB_self] at E1
   rw [timeB_self] at E2
   have G1:=guardDEC
   have G2:=guardTIME
   have H0:=Hd (show Below w.heap.size w ((w.alloc (.cells cs.toArray 30)).alloc (.cells ds.toArray 30)) from belowThen (belowBox w _) (belowBox _ _))
   have hsz:((w.alloc (.cells cs.toArray 30)).alloc (.cells ds.toArray 30)).heap.size=w.heap.size+2:=by rw [World.size_alloc,World.size_alloc]
   have R0:=Hd (show CellsAt ((w.alloc (.cells cs.toArray 30)).alloc (.cells ds.toArray 30)) w.heap.size 0 cs from (box_at w cs 30).then (belowBox _ _) (by rw [World.size_alloc];omega))
   have R1:=Hd (show CellsAt ((w.alloc (.cells cs.toArray 30)).alloc (.cells ds.toArray 30)) (w.heap.size+1) 0 ds from by
    have:=box_at (w.alloc (.cells cs.toArray 30)) ds 30
    rw [World.size_alloc] at this
    exact this)
   obtain ⟨ya,la,va,yc,lc,vc,hh⟩:=hv.has
   obtain ⟨yb,lb,vb,yd,ld,vd,hg⟩:=hu.has
   have Y1:=conv_bytes (hh.atBytes.below (H0.out.mono hB)) yc
   have Y2:=conv_bytes (hg.atBytes.below (H0.out.mono hB)) yd
   have HH:=Hd hh
   have HG:=Hd hg
   have hll:v.list.length≤N:=hh.own.2.2.2.2.2.2.2.2.2.1
   have hfl:v.fields.length≤N:=hh.own.2.2.2.2.2.2.2.2.2.2
   clear ih hf hv hu hh hg
   have c0:=R0.out.get0 HH.out.kind
   have c1:=R0.out.get0 HH.out.bool
   have c2:=R0.out.get0 HH.out.neg
   have c3:=R0.out.get0 HH.out.digits
   have c4:=R0.out.get0 HH.out.exp
   have c5:=R0.out.get0 HH.out.tkind
   have c6:=R0.out.get0 HH.out.day
   have c7:=R0.out.get0 HH.out.nano
   have c8:=R0.out.get0 HH.out.offset
   have c9:=R0.out.get0 HH.out.text
   have c10:=R0.out.get0 HH.out.bytes
   have c11:=R0.out.get0 HH.out.list
   have c12:=R0.out.get0 HH.out.fields
   have d0:=R1.out.get0 HG.out.kind
   have d1:=R1.out.get0 HG.out.bool
   have d2:=R1.out.get0 HG.out.neg
   have d3:=R1.out.get0 HG.out.digits
   have d4:=R1.out.get0 HG.out.exp
   have d5:=R1.out.get0 HG.out.tkind
   have d6:=R1.out.get0 HG.out.day
   have d7:=R1.out.get0 HG.out.nano
   have d8:=R1.out.get0 HG.out.offset
   have d9:=R1.out.get0 HG.out.text
   have d10:=R1.out.get0 HG.out.bytes
   have d11:=R1.out.get0 HG.out.list
   have d12:=R1.out.get0 HG.out.fields
   go_enter Tryz.func8,Tryz.ntmps8
   go_wp2_with fail
   clear c0 c1 c2 c3 c4 c5 c6 c7 c8 c9 c10 d0 d1 d2 d3 d4 d5 d6 d7 d8 d9 d10 E1 E2 Y1 Y2
   go_simp
   go_loopw [5] (fun i wr=>∃ (k:Nat),k≤v.list.length∧i=.int .i64 k∧Hid (CellsAt wr w.heap.size 0 cs)∧Hid (CellsAt wr (w.heap.size+1) 0 ds)∧Hid (Below w.heap.size w wr)∧w.heap.size+2≤wr.heap.size)
    (fun i _=>v.list.length-(intOf i).toNat)
   case atStart=>exact ⟨0,by omega,rfl,R0,R1,H0,by omega⟩
   case round =>
    clear R0 R1 H0 c11 c12 d11 d12 hsz
    obtain ⟨w1,rfl⟩:∃ w1,w1=wr:=⟨wr,rfl⟩
    obtain ⟨k,hk,rfl,R0,R1,H0,hs⟩:=hrel
    have c11:=R0.out.get0 HH.out.list
    have c12:=R0.out.get0 HH.out.fields
    have d11:=R1.out.get0 HG.out.list
    have d12:=R1.out.get0 HG.out.fields
    by_cases hlt:k<v.list.length
    ·obtain ⟨b1,o1,rfl,hb1,hget1⟩:=HH.out.atList.get (by intro h;simp [h] at hlt)
     obtain ⟨b2,o2,rfl,hb2,hget2⟩:=HG.out.atList.get (by intro h;simp [h] at hlt)
     obtain ⟨cs1,h1,h2⟩:=hget1 k hlt
     obtain ⟨ds1,h3,h4⟩:=hget2 k hlt
     have HV1:=Hd h2
     have HV2:=Hd h4
     have HC1:=Hd h1
     have HC2:=Hd h3
     have hl1:=Hd (show (Tryz.prog.info? 30).map (·.size)=some cs1.length by rw [h2.len];exact sizeV)
     have hl2:=Hd (show (Tryz.prog.info? 30).map (·.size)=some ds1.length by rw [h4.len];exact sizeV)
     have HFC:=Hd (HF.out.1 v.list[k] (List.getElem_mem hlt))
     clear h1 h2 h3 h4 hget1 hget2
     go_wp2_with fail
     have D3:=Hd (show Below w1.heap.size w1 w1.drew from ⟨rfl,rfl,rfl,Nat.le_refl _,fun _ _=>rfl⟩)
     refine wp_region_held_drew (S:=fun u=>CellsAt u w.heap.size 0 cs∧CellsAt u (w.heap.size+1) 0 ds∧Below w.heap.size w u∧w.heap.size+2≤u.heap.size) (by kernel_rfl)
      ⟨R0.out.below D3.out (by omega),R1.out.below D3.out (by omega),belowThen H0.out D3.out,Nat.le_trans hs D3.out.size⟩ (fun hHeld=>?_)
     refine wpAnyH_take (i:=0) (v:=.pointer (some ⟨w.heap.size,11,none⟩)) rfl (by kernel_rfl) (by kernel_rfl) (by kernel_rfl) (fun _ _ _ h=>h) (Or.inl ⟨by kernel_rfl,fun u hu=>by go_simp⟩) (by assumption) ?_
     simp only [Act.put]
     refine wpAnyH_take (i:=1) (v:=.slice (some ⟨b1,o1,none⟩) v.list.length lc) rfl (by kernel_rfl) (by kernel_rfl) (by kernel_rfl) (fun _ _ _ h=>h) (Or.inl ⟨by kernel_rfl,fun u hu=>by have hc:=CellsAt.get0 hu.1 HH.out.list;go_simp⟩) (by assumption) ?_
     simp only [Act.put]
     refine wpAnyH_take (i:=2) (v:=.int .i64 k) rfl (by kernel_rfl) (by kernel_rfl) (by kernel_rfl) (fun _ _ _ h=>h) (Or.inl ⟨by kernel_rfl,fun u hu=>by go_simp⟩) (by assumption) ?_
     simp only [Act.put]
     refine wpAnyH_take (i:=3) (v:=.pointer (some ⟨b1,o1+k * 13,none⟩)) rfl (by kernel_rfl) (by kernel_rfl) (by kernel_rfl) (fun _ _ _ h=>h) (Or.inl ⟨by kernel_rfl,fun u hu=>by go_simp⟩) (by assumption) ?_
     simp only [Act.put]
     refine wpAnyH_take (i:=4) (v:=.agg cs1.toArray) rfl (by kernel_rfl) (by kernel_rfl) (by kernel_rfl) (fun _ _ _ h=>h) ?_ (by assumption) ?_
     ·exact yieldsIf_load_mid (by kernel_rfl) 30 _ rfl b1 (o1+k * 13) (by kernel_rfl) cs1 _ (fun u hu=>(HC1.out.below (hu.2.2.1.mono hB) hb1).range) Tryz.underlying30 rfl hl1.out
     simp only [Act.put]
     refine wpAnyH_take (i:=5) (v:=.pointer (some ⟨w.heap.size+1,11,none⟩)) rfl (by kernel_rfl) (by kernel_rfl) (by kernel_rfl) (fun _ _ _ h=>h) (Or.inl ⟨by kernel_rfl,fun u hu=>by go_simp⟩) (by assumption) ?_
     simp only [Act.put]
     refine wpAnyH_take (i:=6) (v:=.slice (some ⟨b2,o2,none⟩) v.list.length ld) rfl (by kernel_rfl) (by kernel_rfl) (by kernel_rfl) (fun _ _ _ h=>h) (Or.inl ⟨by kernel_rfl,fun u hu=>by have hc:=CellsAt.get0 hu.2.1 HG.out.list;go_simp⟩) (by assumption) ?_
     simp only [Act.put]
     refine wpAnyH_take (i:=7) (v:=.int .i64 k) rfl (by kernel_rfl) (by kernel_rfl) (by kernel_rfl) (fun _ _ _ h=>h) (Or.inl ⟨by kernel_rfl,fun u hu=>by go_simp⟩) (by assumption) ?_
     simp only [Act.put]
     refine wpAnyH_take (i:=8) (v:=.pointer (some ⟨b2,o2+k * 13,none⟩)) rfl (by kernel_rfl) (by kernel_rfl) (by kernel_rfl) (fun _ _ _ h=>h) (Or.inl ⟨by kernel_rfl,fun u hu=>by go_simp⟩) (by assumption) ?_
     simp only [Act.put]
     refine wpAnyH_take (i:=9) (v:=.agg ds1.toArray) rfl (by kernel_rfl) (by kernel_rfl) (by kernel_rfl) (fun _ _ _ h=>h) ?_ (by assumption) ?_
     ·exact yieldsIf_load_mid (by kernel_rfl) 30 _ rfl b2 (o2+k * 13) (by kernel_rfl) ds1 _ (fun u hu=>(HC2.out.below (hu.2.2.1.mono hB) hb2).range) Tryz.underlying30 rfl hl2.out
     simp only [Act.put]
     refine rd1 10 rfl (fun K hK=>?_)
     go_simp
     refine (IH.out _ _ B N cs1 ds1 HFC.out hN (Nat.le_trans hB hHeld.2.2.1.size) (HV1.out.below (hHeld.2.2.1.mono hB)) (HV2.out.below (hHeld.2.2.1.mono hB))).mono ?_
     rintro e w2 ⟨rfl,hb⟩
     refine hK.out _ _ ⟨hHeld.1.below hb (by omega),hHeld.2.1.below hb (by omega),belowThen hHeld.2.2.1 hb,Nat.le_trans hHeld.2.2.2 hb.size⟩ (fun hHeld1=>?_)
     clear hK K hb hHeld
     refine rd1 11 rfl (fun K hK=>?_)
     go_simp
     refine hK.out _ _ hHeld1 (fun hHeld2=>?_)
     clear hK K hHeld2
     refine wpAnyH_done (by kernel_rfl) ?_ _
     go_wp2_with fail
     go_roundw
     case rel=>exact ⟨k+1,by omega,by go_num,Hd hHeld1.1,Hd hHeld1.2.1,Hd hHeld1.2.2.1,hHeld1.2.2.2⟩
     case measure=>simp [intOf];omega
    ·obtain rfl:k=v.list.length:=by omega
     go_wp2_with fail
     go_simp
     go_loopw [6] (fun i wr=>∃ (k:Nat),k≤v.fields.length∧i=.int .i64 k∧Hid (CellsAt wr w.heap.size 0 cs)∧Hid (CellsAt wr (w.heap.size+1) 0 ds)∧Hid (Below w.heap.size w wr)∧w.heap.size+2≤wr.heap.size)
      (fun i _=>v.fields.length-(intOf i).toNat)
     case atStart=>exact ⟨0,by omega,rfl,R0,R1,H0,hs⟩
     case round =>
      clear R0 R1 H0 c11 c12 d11 d12 hs hlt
      obtain ⟨w0,hw0⟩:∃ w0,w0=w1:=⟨_,rfl⟩
      clear hw0
      obtain ⟨w1,rfl⟩:∃ w1,w1=wr:=⟨wr,rfl⟩
      obtain ⟨k,hk,rfl,R0,R1,H0,hs⟩:=hrel
      have c12:=R0.out.get0 HH.out.fields
      have d12:=R1.out.get0 HG.out.fields
      by_cases hlt:k<v.fields.length
      ·obtain ⟨b1,o1,rfl,hb1,hget1⟩:=HH.out.atFields.get (by intro h;simp [h] at hlt)
       obtain ⟨b2,o2,rfl,hb2,hget2⟩:=HG.out.atFields.get (by intro h;simp [h] at hlt)
       obtain ⟨cs1,_,h1,h2⟩:=hget1 k hlt
       obtain ⟨ds1,_,h3,h4⟩:=hget2 k hlt
       obtain ⟨ky,hky⟩:∃ ky,ky=v.fields[k].1:=⟨_,rfl⟩
       rw [← hky] at h1 h3
       clear hky
       have HV1:=Hd h2
       have HV2:=Hd h4
       have HC1:=Hd h1
       have HC2:=Hd h3
       have hl1:=Hd (show (Tryz.prog.info? 30).map (·.size)=some cs1.length by rw [h2.len];exact sizeV)
       have hl2:=Hd (show (Tryz.prog.info? 30).map (·.size)=some ds1.length by rw [h4.len];exact sizeV)
       have HFC:=Hd (HF.out.2 v.fields[k] (List.getElem_mem hlt))
       clear h1 h2 h3 h4 hget1 hget2
       go_wp2_with fail
       have D3:=Hd (show Below w1.heap.size w1 w1.drew from ⟨rfl,rfl,rfl,Nat.le_refl _,fun _ _=>rfl⟩)
       refine wp_region_held_drew (S:=fun u=>CellsAt u w.heap.size 0 cs∧CellsAt u (w.heap.size+1) 0 ds∧Below w.heap.size w u∧w.heap.size+2≤u.heap.size) (by kernel_rfl)
        ⟨R0.out.below D3.out (by omega),R1.out.below D3.out (by omega),belowThen H0.out D3.out,Nat.le_trans hs D3.out.size⟩ (fun hHeld=>?_)
       refine wpAnyH_take (i:=0) (v:=.pointer (some ⟨w.heap.size,12,none⟩)) rfl (by kernel_rfl) (by kernel_rfl) (by kernel_rfl) (fun _ _ _ h=>h) (Or.inl ⟨by kernel_rfl,fun u hu=>by go_simp⟩) (by assumption) ?_
       simp only [Act.put]
       refine wpAnyH_take (i:=1) (v:=.slice (some ⟨b1,o1,none⟩) v.fields.length vc) rfl (by kernel_rfl) (by kernel_rfl) (by kernel_rfl) (fun _ _ _ h=>h) (Or.inl ⟨by kernel_rfl,fun u hu=>by have hc:=CellsAt.get0 hu.1 HH.out.fields;go_simp⟩) (by assumption) ?_
       simp only [Act.put]
       refine wpAnyH_take (i:=2) (v:=.int .i64 k) rfl (by kernel_rfl) (by kernel_rfl) (by kernel_rfl) (fun _ _ _ h=>h) (Or.inl ⟨by kernel_rfl,fun u hu=>by go_simp⟩) (by assumption) ?_
       simp only [Act.put]
       refine wpAnyH_take (i:=3) (v:=.pointer (some ⟨b1,o1+k * 14,none⟩)) rfl (by kernel_rfl) (by kernel_rfl) (by kernel_rfl) (fun _ _ _ h=>h) (Or.inl ⟨by kernel_rfl,fun u hu=>by go_simp⟩) (by assumption) ?_
       simp only [Act.put]
       refine wpAnyH_take (i:=4) (v:=.pointer (some ⟨b1,o1+k * 14,none⟩)) rfl (by kernel_rfl) (by kernel_rfl) (by kernel_rfl) (fun _ _ _ h=>h) (Or.inl ⟨by kernel_rfl,fun u hu=>by go_simp⟩) (by assumption) ?_
       simp only [Act.put]
       refine wpAnyH_take (i:=5) (v:=.string ky) rfl (by kernel_rfl) (by kernel_rfl) (by kernel_rfl) (fun _ _ _ h=>h) (Or.inl ⟨by kernel_rfl,fun u hu=>by have hc:=(HC1.out.below (hu.2.2.1.mono hB) hb1).get0' (v:=.string ky) rfl;go_simp⟩) (by assumption) ?_
       simp only [Act.put]
       refine wpAnyH_take (i:=6) (v:=.pointer (some ⟨w.heap.size+1,12,none⟩)) rfl (by kernel_rfl) (by kernel_rfl) (by kernel_rfl) (fun _ _ _ h=>h) (Or.inl ⟨by kernel_rfl,fun u hu=>by go_simp⟩) (by assumption) ?_
       simp only [Act.put]
       refine wpAnyH_take (i:=7) (v:=.slice (some ⟨b2,o2,none⟩) v.fields.length vd) rfl (by kernel_rfl) (by kernel_rfl) (by kernel_rfl) (fun _ _ _ h=>h) (Or.inl ⟨by kernel_rfl,fun u hu=>by have hc:=CellsAt.get0 hu.2.1 HG.out.fields;go_simp⟩) (by assumption) ?_
       simp only [Act.put]
       refine wpAnyH_take (i:=8) (v:=.int .i64 k) rfl (by kernel_rfl) (by kernel_rfl) (by kernel_rfl) (fun _ _ _ h=>h) (Or.inl ⟨by kernel_rfl,fun u hu=>by go_simp⟩) (by assumption) ?_
       simp only [Act.put]
       refine wpAnyH_take (i:=9) (v:=.pointer (some ⟨b2,o2+k * 14,none⟩)) rfl (by kernel_rfl) (by kernel_rfl) (by kernel_rfl) (fun _ _ _ h=>h) (Or.inl ⟨by kernel_rfl,fun u hu=>by go_simp⟩) (by assumption) ?_
       simp only [Act.put]
       refine wpAnyH_take (i:=10) (v:=.pointer (some ⟨b2,o2+k * 14,none⟩)) rfl (by kernel_rfl) (by kernel_rfl) (by kernel_rfl) (fun _ _ _ h=>h) (Or.inl ⟨by kernel_rfl,fun u hu=>by go_simp⟩) (by assumption) ?_
       simp only [Act.put]
       refine wpAnyH_take (i:=11) (v:=.string ky) rfl (by kernel_rfl) (by kernel_rfl) (by kernel_rfl) (fun _ _ _ h=>h) (Or.inl ⟨by kernel_rfl,fun u hu=>by have hc:=(HC2.out.below (hu.2.2.1.mono hB) hb2).get0' (v:=.string ky) rfl;go_simp⟩) (by assumption) ?_
       simp only [Act.put]
       refine wpAnyH_take (i:=12) (v:=.bool false) rfl (by kernel_rfl) (by kernel_rfl) (by kernel_rfl) (fun _ _ _ h=>h) (Or.inl ⟨by kernel_rfl,fun u hu=>by go_simp⟩) (by assumption) ?_
       simp only [Act.put]
       refine wpAnyH_take (i:=13) (v:=.bool false) rfl (by kernel_rfl) (by kernel_rfl) (by kernel_rfl) (fun _ _ _ h=>h) (Or.inl ⟨by kernel_rfl,fun u hu=>by go_simp⟩) (by assumption) ?_
       simp only [Act.put]
       refine wpAnyH_take (i:=14) (v:=.pointer (some ⟨w.heap.size,12,none⟩)) rfl (by kernel_rfl) (by kernel_rfl) (by kernel_rfl) (fun _ _ _ h=>h) (Or.inl ⟨by kernel_rfl,fun u hu=>by go_simp⟩) (by assumption) ?_
       simp only [Act.put]
       refine wpAnyH_take (i:=15) (v:=.slice (some ⟨b1,o1,none⟩) v.fields.length vc) rfl (by kernel_rfl) (by kernel_rfl) (by kernel_rfl) (fun _ _ _ h=>h) (Or.inl ⟨by kernel_rfl,fun u hu=>by have hc:=CellsAt.get0 hu.1 HH.out.fields;go_simp⟩) (by assumption) ?_
       simp only [Act.put]
       refine wpAnyH_take (i:=16) (v:=.int .i64 k) rfl (by kernel_rfl) (by kernel_rfl) (by kernel_rfl) (fun _ _ _ h=>h) (Or.inl ⟨by kernel_rfl,fun u hu=>by go_simp⟩) (by assumption) ?_
       simp only [Act.put]
       refine wpAnyH_take (i:=17) (v:=.pointer (some ⟨b1,o1+k * 14,none⟩)) rfl (by kernel_rfl) (by kernel_rfl) (by kernel_rfl) (fun _ _ _ h=>h) (Or.inl ⟨by kernel_rfl,fun u hu=>by go_simp⟩) (by assumption) ?_
       simp only [Act.put]
       refine wpAnyH_take (i:=18) (v:=.pointer (some ⟨b1,o1+k * 14+1,none⟩)) rfl (by kernel_rfl) (by kernel_rfl) (by kernel_rfl) (fun _ _ _ h=>h) (Or.inl ⟨by kernel_rfl,fun u hu=>by go_simp⟩) (by assumption) ?_
       simp only [Act.put]
       refine wpAnyH_take (i:=19) (v:=.agg cs1.toArray) rfl (by kernel_rfl) (by kernel_rfl) (by kernel_rfl) (fun _ _ _ h=>h) ?_ (by assumption) ?_
       ·exact yieldsIf_load_mid (by kernel_rfl) 30 _ rfl b1 (o1+k * 14+1) (by kernel_rfl) cs1 _ (fun u hu=>(HC1.out.tail.below (hu.2.2.1.mono hB) hb1).range) Tryz.underlying30 rfl hl1.out
       simp only [Act.put]
       refine wpAnyH_take (i:=20) (v:=.pointer (some ⟨w.heap.size+1,12,none⟩)) rfl (by kernel_rfl) (by kernel_rfl) (by kernel_rfl) (fun _ _ _ h=>h) (Or.inl ⟨by kernel_rfl,fun u hu=>by go_simp⟩) (by assumption) ?_
       simp only [Act.put]
       refine wpAnyH_take (i:=21) (v:=.slice (some ⟨b2,o2,none⟩) v.fields.length vd) rfl (by kernel_rfl) (by kernel_rfl) (by kernel_rfl) (fun _ _ _ h=>h) (Or.inl ⟨by kernel_rfl,fun u hu=>by have hc:=CellsAt.get0 hu.2.1 HG.out.fields;go_simp⟩) (by assumption) ?_
       simp only [Act.put]
       refine wpAnyH_take (i:=22) (v:=.int .i64 k) rfl (by kernel_rfl) (by kernel_rfl) (by kernel_rfl) (fun _ _ _ h=>h) (Or.inl ⟨by kernel_rfl,fun u hu=>by go_simp⟩) (by assumption) ?_
       simp only [Act.put]
       refine wpAnyH_take (i:=23) (v:=.pointer (some ⟨b2,o2+k * 14,none⟩)) rfl (by kernel_rfl) (by kernel_rfl) (by kernel_rfl) (fun _ _ _ h=>h) (Or.inl ⟨by kernel_rfl,fun u hu=>by go_simp⟩) (by assumption) ?_
       simp only [Act.put]
       refine wpAnyH_take (i:=24) (v:=.pointer (some ⟨b2,o2+k * 14+1,none⟩)) rfl (by kernel_rfl) (by kernel_rfl) (by kernel_rfl) (fun _ _ _ h=>h) (Or.inl ⟨by kernel_rfl,fun u hu=>by go_simp⟩) (by assumption) ?_
       simp only [Act.put]
       refine wpAnyH_take (i:=25) (v:=.agg ds1.toArray) rfl (by kernel_rfl) (by kernel_rfl) (by kernel_rfl) (fun _ _ _ h=>h) ?_ (by assumption) ?_
       ·exact yieldsIf_load_mid (by kernel_rfl) 30 _ rfl b2 (o2+k * 14+1) (by kernel_rfl) ds1 _ (fun u hu=>(HC2.out.tail.below (hu.2.2.1.mono hB) hb2).range) Tryz.underlying30 rfl hl2.out
       simp only [Act.put]
       refine rd1 26 rfl (fun K hK=>?_)
       go_simp
       refine (IH.out _ _ B N cs1 ds1 HFC.out hN (Nat.le_trans hB hHeld.2.2.1.size) (HV1.out.below (hHeld.2.2.1.mono hB)) (HV2.out.below (hHeld.2.2.1.mono hB))).mono ?_
       rintro e w2 ⟨rfl,hb⟩
       refine hK.out _ _ ⟨hHeld.1.below hb (by omega),hHeld.2.1.below hb (by omega),belowThen hHeld.2.2.1 hb,Nat.le_trans hHeld.2.2.2 hb.size⟩ (fun hHeld1=>?_)
       clear hK K hb hHeld
       refine rd1 27 rfl (fun K hK=>?_)
       go_simp
       refine hK.out _ _ hHeld1 (fun hHeld2=>?_)
       clear hK K hHeld2
       refine rd1 28 rfl (fun K hK=>?_)
       go_simp
       refine hK.out _ _ hHeld1 (fun hHeld2=>?_)
       clear hK K hHeld2
       refine wpAnyH_done (by kernel_rfl) ?_ _
       go_wp2_with fail
       go_roundw
       case rel=>exact ⟨k+1,by omega,by go_num,Hd hHeld1.1,Hd hHeld1.2.1,Hd hHeld1.2.2.1,hHeld1.2.2.2⟩
       case measure=>simp [intOf];omega
      ·go_wp2_with fail
       go_ret
       exact ⟨rfl,H0.out⟩
end Go.Proofs.YtagkjofpncpcpaaGreatDoor
