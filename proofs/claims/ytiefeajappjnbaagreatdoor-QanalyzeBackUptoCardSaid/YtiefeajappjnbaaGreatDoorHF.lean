/- The reference's Same (datakitref07): of two copies of one value it says yes. -/
import Derived.Test.YtiefeajappjnbaaGreatDoorGA
import Derived.Test.YtiefeajappjnbaaGreatDoorGC
import Derived.Test.YtiefeajappjnbaaGreatDoorGD
import Derived.Deep.RegionHeld3
import Derived.OrdersHeld
import Derived.Laws.BytesArg
import Derived.Laws.BytesString
import Derived.Test.YtiefeajappjnbaaGreatDoorGX
import Derived.Test.YtiefeajappjnbaaGreatDoorGI
import Derived.Test.YtiefeajappjnbaaGreatDoorGU
import Derived.Test.YtiefeajappjnbaaGreatDoorHO
import Derived.BigQuiet
namespace Go.Proofs.YtiefeajappjnbaaGreatDoor
open Go.RowKit
theorem gF {w:World} {B:Nat} {l:List Int} {a:Option Addr} (h:bC w B l a) (c:Nat):(convert 26 9 (.slice a l.length c)).run Tryz.prog w=.ok (.string (strOfNums l)) w:=by
 rcases h with h | ⟨b,o,rfl,_,hc,_⟩
 ·subst h
  rw [List.length_nil,run_convert_bytes_string w 26 9 5 a 0 c Tryz.underlying26 Tryz.underlying5 Tryz.underlying9]
  cases a<;>simp [Conv.bytesToString,loadCells]
  all_goals rfl
 ·refine run_convert_bytes_arg _ 26 5 Tryz.underlying26 Tryz.underlying5 b o l.length c l rfl (fun i hi=>?_) 9 Tryz.underlying9
  have:=hc i (by simpa using hi)
  rw [this]
  simp [List.getElem?_eq_getElem hi]
theorem uZ (d:dL):eb d d=true:=by simp [eb]
theorem qY (t:gi):ed t t=true:=by simp [ed]
set_option maxRecDepth 100000 in
set_option maxHeartbeats 6400000 in
theorem pp (n:Nat):∀ (v:ar) (w:World) (B N:Nat) (cs ds:List Value),ik n v→N≤4294967296→B≤w.heap.size→ar.At w B N v cs→ar.At w B N v ds →
 Calls Tryz.prog 83 #[.agg cs.toArray,.agg ds.toArray] w (vt w):=by
 induction n with
 | zero=>intro v w B N cs ds hf;exact hf.elim
 | succ n ih =>
   intro v w B N cs ds hf hN hB hv hu
   have IH:=Hd ih
   have HF:=Hd hf
   have E1:=xW v.num v.num
   have E2:=rK v.time v.time
   rw [uZ] at E1
   rw [qY] at E2
   have G1:=dw
   have G2:=dE
   have H0:=Hd (show Below w.heap.size w ((w.alloc (.cells cs.toArray 30)).alloc (.cells ds.toArray 30)) from ae (af w _) (af _ _))
   have hsz:((w.alloc (.cells cs.toArray 30)).alloc (.cells ds.toArray 30)).heap.size=w.heap.size+2:=by rw [World.size_alloc,World.size_alloc]
   have R0:=Hd (show aj ((w.alloc (.cells cs.toArray 30)).alloc (.cells ds.toArray 30)) w.heap.size 0 cs from (aA w cs 30).then (af _ _) (by rw [World.size_alloc];omega))
   have R1:=Hd (show aj ((w.alloc (.cells cs.toArray 30)).alloc (.cells ds.toArray 30)) (w.heap.size+1) 0 ds from by
    have:=aA (w.alloc (.cells cs.toArray 30)) ds 30
    rw [World.size_alloc] at this
    exact this)
   obtain ⟨ya,la,va,yc,lc,vc,hh⟩:=hv.has
   obtain ⟨yb,lb,vb,yd,ld,vd,hg⟩:=hu.has
   have Y1:=gF (hh.atBytes.below (H0.out.mono hB)) yc
   have Y2:=gF (hg.atBytes.below (H0.out.mono hB)) yd
   have HH:=Hd hh
   have HG:=Hd hg
   have hll:v.list.length≤N:=hh.own.2.2.2.2.2.2.2.2.2.1
   have hfl:v.fields.length≤N:=hh.own.2.2.2.2.2.2.2.2.2.2
   clear ih hf hv hu hh hg
   have c0:=R0.out.get0 HH.out.kind
   have c1:=R0.out.get0 HH.out.bool
   have c2:=R0.out.get0 HH.out.neg
   have c3:=R0.out.get0 HH.out.digits
   have c4:=R0.out.get0 HH.out.exp
   have c5:=R0.out.get0 HH.out.tkind
   have c6:=R0.out.get0 HH.out.day
   have c7:=R0.out.get0 HH.out.nano
   have c8:=R0.out.get0 HH.out.offset
   have c9:=R0.out.get0 HH.out.text
   have c10:=R0.out.get0 HH.out.bytes
   have c11:=R0.out.get0 HH.out.list
   have c12:=R0.out.get0 HH.out.fields
   have d0:=R1.out.get0 HG.out.kind
   have d1:=R1.out.get0 HG.out.bool
   have d2:=R1.out.get0 HG.out.neg
   have d3:=R1.out.get0 HG.out.digits
   have d4:=R1.out.get0 HG.out.exp
   have d5:=R1.out.get0 HG.out.tkind
   have d6:=R1.out.get0 HG.out.day
   have d7:=R1.out.get0 HG.out.nano
   have d8:=R1.out.get0 HG.out.offset
   have d9:=R1.out.get0 HG.out.text
   have d10:=R1.out.get0 HG.out.bytes
   have d11:=R1.out.get0 HG.out.list
   have d12:=R1.out.get0 HG.out.fields
   go_enter Tryz.func83,Tryz.ntmps83
   go_wp2_with fail
   clear c0 c1 c2 c3 c4 c5 c6 c7 c8 c9 c10 d0 d1 d2 d3 d4 d5 d6 d7 d8 d9 d10 E1 E2 Y1 Y2
   go_simp
   go_loopw [5] (fun i wr=>∃ (k:Nat),k≤v.list.length∧i=.int .i64 k∧Hid (aj wr w.heap.size 0 cs)∧Hid (aj wr (w.heap.size+1) 0 ds)∧Hid (Below w.heap.size w wr)∧w.heap.size+2≤wr.heap.size)
    (fun i _=>v.list.length-(intOf i).toNat)
   case atStart=>exact ⟨0,by omega,rfl,R0,R1,H0,by omega⟩
   case round =>
    clear R0 R1 H0 c11 c12 d11 d12 hsz
    obtain ⟨w1,rfl⟩:∃ w1,w1=wr:=⟨wr,rfl⟩
    obtain ⟨k,hk,rfl,R0,R1,H0,hs⟩:=hrel
    have c11:=R0.out.get0 HH.out.list
    have c12:=R0.out.get0 HH.out.fields
    have d11:=R1.out.get0 HG.out.list
    have d12:=R1.out.get0 HG.out.fields
    by_cases hlt:k<v.list.length
    ·obtain ⟨b1,o1,rfl,hb1,hget1⟩:=HH.out.atList.get (by intro h;simp [h] at hlt)
     obtain ⟨b2,o2,rfl,hb2,hget2⟩:=HG.out.atList.get (by intro h;simp [h] at hlt)
     obtain ⟨cs1,h1,h2⟩:=hget1 k hlt
     obtain ⟨ds1,h3,h4⟩:=hget2 k hlt
     have HV1:=Hd h2
     have HV2:=Hd h4
     have HC1:=Hd h1
     have HC2:=Hd h3
     have hl1:=Hd (show (Tryz.prog.info? 30).map (·.size)=some cs1.length by rw [h2.len];exact bM)
     have hl2:=Hd (show (Tryz.prog.info? 30).map (·.size)=some ds1.length by rw [h4.len];exact bM)
     have HFC:=Hd (HF.out.1 v.list[k] (List.getElem_mem hlt))
     clear h1 h2 h3 h4 hget1 hget2
     go_wp2_with fail
     have D3:=Hd (show Below w1.heap.size w1 w1.drew from ⟨rfl,rfl,rfl,Nat.le_refl _,fun _ _=>rfl⟩)
     refine wp_region_held_drew (S:=fun u=>aj u w.heap.size 0 cs∧aj u (w.heap.size+1) 0 ds∧Below w.heap.size w u∧w.heap.size+2≤u.heap.size) (by kernel_rfl)
      ⟨R0.out.below D3.out (by omega),R1.out.below D3.out (by omega),ae H0.out D3.out,Nat.le_trans hs D3.out.size⟩ (fun hHeld=>?_)
     refine wpAnyH_take (i:=0) (v:=.pointer (some ⟨w.heap.size,11,none⟩)) rfl (by kernel_rfl) (by kernel_rfl) (by kernel_rfl) (fun _ _ _ h=>h) (Or.inl ⟨by kernel_rfl,fun u hu=>by go_simp⟩) (by assumption) ?_
     simp only [Act.put]
     refine wpAnyH_take (i:=1) (v:=.slice (some ⟨b1,o1,none⟩) v.list.length lc) rfl (by kernel_rfl) (by kernel_rfl) (by kernel_rfl) (fun _ _ _ h=>h) (Or.inl ⟨by kernel_rfl,fun u hu=>by have hc:=aj.get0 hu.1 HH.out.list;go_simp⟩) (by assumption) ?_
     simp only [Act.put]
     refine wpAnyH_take (i:=2) (v:=.int .i64 k) rfl (by kernel_rfl) (by kernel_rfl) (by kernel_rfl) (fun _ _ _ h=>h) (Or.inl ⟨by kernel_rfl,fun u hu=>by go_simp⟩) (by assumption) ?_
     simp only [Act.put]
     refine wpAnyH_take (i:=3) (v:=.pointer (some ⟨b1,o1+k * 13,none⟩)) rfl (by kernel_rfl) (by kernel_rfl) (by kernel_rfl) (fun _ _ _ h=>h) (Or.inl ⟨by kernel_rfl,fun u hu=>by go_simp⟩) (by assumption) ?_
     simp only [Act.put]
     refine wpAnyH_take (i:=4) (v:=.agg cs1.toArray) rfl (by kernel_rfl) (by kernel_rfl) (by kernel_rfl) (fun _ _ _ h=>h) ?_ (by assumption) ?_
     ·exact yieldsIf_load_mid (by kernel_rfl) 30 _ rfl b1 (o1+k * 13) (by kernel_rfl) cs1 _ (fun u hu=>(HC1.out.below (hu.2.2.1.mono hB) hb1).range) Tryz.underlying30 rfl hl1.out
     simp only [Act.put]
     refine wpAnyH_take (i:=5) (v:=.pointer (some ⟨w.heap.size+1,11,none⟩)) rfl (by kernel_rfl) (by kernel_rfl) (by kernel_rfl) (fun _ _ _ h=>h) (Or.inl ⟨by kernel_rfl,fun u hu=>by go_simp⟩) (by assumption) ?_
     simp only [Act.put]
     refine wpAnyH_take (i:=6) (v:=.slice (some ⟨b2,o2,none⟩) v.list.length ld) rfl (by kernel_rfl) (by kernel_rfl) (by kernel_rfl) (fun _ _ _ h=>h) (Or.inl ⟨by kernel_rfl,fun u hu=>by have hc:=aj.get0 hu.2.1 HG.out.list;go_simp⟩) (by assumption) ?_
     simp only [Act.put]
     refine wpAnyH_take (i:=7) (v:=.int .i64 k) rfl (by kernel_rfl) (by kernel_rfl) (by kernel_rfl) (fun _ _ _ h=>h) (Or.inl ⟨by kernel_rfl,fun u hu=>by go_simp⟩) (by assumption) ?_
     simp only [Act.put]
     refine wpAnyH_take (i:=8) (v:=.pointer (some ⟨b2,o2+k * 13,none⟩)) rfl (by kernel_rfl) (by kernel_rfl) (by kernel_rfl) (fun _ _ _ h=>h) (Or.inl ⟨by kernel_rfl,fun u hu=>by go_simp⟩) (by assumption) ?_
     simp only [Act.put]
     refine wpAnyH_take (i:=9) (v:=.agg ds1.toArray) rfl (by kernel_rfl) (by kernel_rfl) (by kernel_rfl) (fun _ _ _ h=>h) ?_ (by assumption) ?_
     ·exact yieldsIf_load_mid (by kernel_rfl) 30 _ rfl b2 (o2+k * 13) (by kernel_rfl) ds1 _ (fun u hu=>(HC2.out.below (hu.2.2.1.mono hB) hb2).range) Tryz.underlying30 rfl hl2.out
     simp only [Act.put]
     refine rd1 10 rfl (fun K hK=>?_)
     go_simp
     refine (IH.out _ _ B N cs1 ds1 HFC.out hN (Nat.le_trans hB hHeld.2.2.1.size) (HV1.out.below (hHeld.2.2.1.mono hB)) (HV2.out.below (hHeld.2.2.1.mono hB))).mono ?_
     rintro e w2 ⟨rfl,hb⟩
     refine hK.out _ _ ⟨hHeld.1.below hb (by omega),hHeld.2.1.below hb (by omega),ae hHeld.2.2.1 hb,Nat.le_trans hHeld.2.2.2 hb.size⟩ (fun hHeld1=>?_)
     clear hK K hb hHeld
     refine rd1 11 rfl (fun K hK=>?_)
     go_simp
     refine hK.out _ _ hHeld1 (fun hHeld2=>?_)
     clear hK K hHeld2
     refine wpAnyH_done (by kernel_rfl) ?_ _
     go_wp2_with fail
     go_roundw
     case rel=>exact ⟨k+1,by omega,by go_num,Hd hHeld1.1,Hd hHeld1.2.1,Hd hHeld1.2.2.1,hHeld1.2.2.2⟩
     case measure=>simp [intOf];omega
    ·obtain rfl:k=v.list.length:=by omega
     go_wp2_with fail
     go_simp
     go_loopw [6] (fun i wr=>∃ (k:Nat),k≤v.fields.length∧i=.int .i64 k∧Hid (aj wr w.heap.size 0 cs)∧Hid (aj wr (w.heap.size+1) 0 ds)∧Hid (Below w.heap.size w wr)∧w.heap.size+2≤wr.heap.size)
      (fun i _=>v.fields.length-(intOf i).toNat)
     case atStart=>exact ⟨0,by omega,rfl,R0,R1,H0,hs⟩
     case round =>
      clear R0 R1 H0 c11 c12 d11 d12 hs hlt
      obtain ⟨w0,hw0⟩:∃ w0,w0=w1:=⟨_,rfl⟩
      clear hw0
      obtain ⟨w1,rfl⟩:∃ w1,w1=wr:=⟨wr,rfl⟩
      obtain ⟨k,hk,rfl,R0,R1,H0,hs⟩:=hrel
      have c12:=R0.out.get0 HH.out.fields
      have d12:=R1.out.get0 HG.out.fields
      by_cases hlt:k<v.fields.length
      ·obtain ⟨b1,o1,rfl,hb1,hget1⟩:=HH.out.atFields.get (by intro h;simp [h] at hlt)
       obtain ⟨b2,o2,rfl,hb2,hget2⟩:=HG.out.atFields.get (by intro h;simp [h] at hlt)
       obtain ⟨cs1,_,h1,h2⟩:=hget1 k hlt
       obtain ⟨ds1,_,h3,h4⟩:=hget2 k hlt
       obtain ⟨ky,hky⟩:∃ ky,ky=v.fields[k].1:=⟨_,rfl⟩
       rw [← hky] at h1 h3
       clear hky
       have HV1:=Hd h2
       have HV2:=Hd h4
       have HC1:=Hd h1
       have HC2:=Hd h3
       have hl1:=Hd (show (Tryz.prog.info? 30).map (·.size)=some cs1.length by rw [h2.len];exact bM)
       have hl2:=Hd (show (Tryz.prog.info? 30).map (·.size)=some ds1.length by rw [h4.len];exact bM)
       have HFC:=Hd (HF.out.2 v.fields[k] (List.getElem_mem hlt))
       clear h1 h2 h3 h4 hget1 hget2
       go_wp2_with fail
       have D3:=Hd (show Below w1.heap.size w1 w1.drew from ⟨rfl,rfl,rfl,Nat.le_refl _,fun _ _=>rfl⟩)
       refine wp_region_held_drew (S:=fun u=>aj u w.heap.size 0 cs∧aj u (w.heap.size+1) 0 ds∧Below w.heap.size w u∧w.heap.size+2≤u.heap.size) (by kernel_rfl)
        ⟨R0.out.below D3.out (by omega),R1.out.below D3.out (by omega),ae H0.out D3.out,Nat.le_trans hs D3.out.size⟩ (fun hHeld=>?_)
       refine wpAnyH_take (i:=0) (v:=.pointer (some ⟨w.heap.size,12,none⟩)) rfl (by kernel_rfl) (by kernel_rfl) (by kernel_rfl) (fun _ _ _ h=>h) (Or.inl ⟨by kernel_rfl,fun u hu=>by go_simp⟩) (by assumption) ?_
       simp only [Act.put]
       refine wpAnyH_take (i:=1) (v:=.slice (some ⟨b1,o1,none⟩) v.fields.length vc) rfl (by kernel_rfl) (by kernel_rfl) (by kernel_rfl) (fun _ _ _ h=>h) (Or.inl ⟨by kernel_rfl,fun u hu=>by have hc:=aj.get0 hu.1 HH.out.fields;go_simp⟩) (by assumption) ?_
       simp only [Act.put]
       refine wpAnyH_take (i:=2) (v:=.int .i64 k) rfl (by kernel_rfl) (by kernel_rfl) (by kernel_rfl) (fun _ _ _ h=>h) (Or.inl ⟨by kernel_rfl,fun u hu=>by go_simp⟩) (by assumption) ?_
       simp only [Act.put]
       refine wpAnyH_take (i:=3) (v:=.pointer (some ⟨b1,o1+k * 14,none⟩)) rfl (by kernel_rfl) (by kernel_rfl) (by kernel_rfl) (fun _ _ _ h=>h) (Or.inl ⟨by kernel_rfl,fun u hu=>by go_simp⟩) (by assumption) ?_
       simp only [Act.put]
       refine wpAnyH_take (i:=4) (v:=.pointer (some ⟨b1,o1+k * 14,none⟩)) rfl (by kernel_rfl) (by kernel_rfl) (by kernel_rfl) (fun _ _ _ h=>h) (Or.inl ⟨by kernel_rfl,fun u hu=>by go_simp⟩) (by assumption) ?_
       simp only [Act.put]
       refine wpAnyH_take (i:=5) (v:=.string ky) rfl (by kernel_rfl) (by kernel_rfl) (by kernel_rfl) (fun _ _ _ h=>h) (Or.inl ⟨by kernel_rfl,fun u hu=>by have hc:=(HC1.out.below (hu.2.2.1.mono hB) hb1).get0' (v:=.string ky) rfl;go_simp⟩) (by assumption) ?_
       simp only [Act.put]
       refine wpAnyH_take (i:=6) (v:=.pointer (some ⟨w.heap.size+1,12,none⟩)) rfl (by kernel_rfl) (by kernel_rfl) (by kernel_rfl) (fun _ _ _ h=>h) (Or.inl ⟨by kernel_rfl,fun u hu=>by go_simp⟩) (by assumption) ?_
       simp only [Act.put]
       refine wpAnyH_take (i:=7) (v:=.slice (some ⟨b2,o2,none⟩) v.fields.length vd) rfl (by kernel_rfl) (by kernel_rfl) (by kernel_rfl) (fun _ _ _ h=>h) (Or.inl ⟨by kernel_rfl,fun u hu=>by have hc:=aj.get0 hu.2.1 HG.out.fields;go_simp⟩) (by assumption) ?_
       simp only [Act.put]
       refine wpAnyH_take (i:=8) (v:=.int .i64 k) rfl (by kernel_rfl) (by kernel_rfl) (by kernel_rfl) (fun _ _ _ h=>h) (Or.inl ⟨by kernel_rfl,fun u hu=>by go_simp⟩) (by assumption) ?_
       simp only [Act.put]
       refine wpAnyH_take (i:=9) (v:=.pointer (some ⟨b2,o2+k * 14,none⟩)) rfl (by kernel_rfl) (by kernel_rfl) (by kernel_rfl) (fun _ _ _ h=>h) (Or.inl ⟨by kernel_rfl,fun u hu=>by go_simp⟩) (by assumption) ?_
       simp only [Act.put]
       refine wpAnyH_take (i:=10) (v:=.pointer (some ⟨b2,o2+k * 14,none⟩)) rfl (by kernel_rfl) (by kernel_rfl) (by kernel_rfl) (fun _ _ _ h=>h) (Or.inl ⟨by kernel_rfl,fun u hu=>by go_simp⟩) (by assumption) ?_
       simp only [Act.put]
       refine wpAnyH_take (i:=11) (v:=.string ky) rfl (by kernel_rfl) (by kernel_rfl) (by kernel_rfl) (fun _ _ _ h=>h) (Or.inl ⟨by kernel_rfl,fun u hu=>by have hc:=(HC2.out.below (hu.2.2.1.mono hB) hb2).get0' (v:=.string ky) rfl;go_simp⟩) (by assumption) ?_
       simp only [Act.put]
       refine wpAnyH_take (i:=12) (v:=.bool false) rfl (by kernel_rfl) (by kernel_rfl) (by kernel_rfl) (fun _ _ _ h=>h) (Or.inl ⟨by kernel_rfl,fun u hu=>by go_simp⟩) (by assumption) ?_
       simp only [Act.put]
       refine wpAnyH_take (i:=13) (v:=.bool false) rfl (by kernel_rfl) (by kernel_rfl) (by kernel_rfl) (fun _ _ _ h=>h) (Or.inl ⟨by kernel_rfl,fun u hu=>by go_simp⟩) (by assumption) ?_
       simp only [Act.put]
       refine wpAnyH_take (i:=14) (v:=.pointer (some ⟨w.heap.size,12,none⟩)) rfl (by kernel_rfl) (by kernel_rfl) (by kernel_rfl) (fun _ _ _ h=>h) (Or.inl ⟨by kernel_rfl,fun u hu=>by go_simp⟩) (by assumption) ?_
       simp only [Act.put]
       refine wpAnyH_take (i:=15) (v:=.slice (some ⟨b1,o1,none⟩) v.fields.length vc) rfl (by kernel_rfl) (by kernel_rfl) (by kernel_rfl) (fun _ _ _ h=>h) (Or.inl ⟨by kernel_rfl,fun u hu=>by have hc:=aj.get0 hu.1 HH.out.fields;go_simp⟩) (by assumption) ?_
       simp only [Act.put]
       refine wpAnyH_take (i:=16) (v:=.int .i64 k) rfl (by kernel_rfl) (by kernel_rfl) (by kernel_rfl) (fun _ _ _ h=>h) (Or.inl ⟨by kernel_rfl,fun u hu=>by go_simp⟩) (by assumption) ?_
       simp only [Act.put]
       refine wpAnyH_take (i:=17) (v:=.pointer (some ⟨b1,o1+k * 14,none⟩)) rfl (by kernel_rfl) (by kernel_rfl) (by kernel_rfl) (fun _ _ _ h=>h) (Or.inl ⟨by kernel_rfl,fun u hu=>by go_simp⟩) (by assumption) ?_
       simp only [Act.put]
       refine wpAnyH_take (i:=18) (v:=.pointer (some ⟨b1,o1+k * 14+1,none⟩)) rfl (by kernel_rfl) (by kernel_rfl) (by kernel_rfl) (fun _ _ _ h=>h) (Or.inl ⟨by kernel_rfl,fun u hu=>by go_simp⟩) (by assumption) ?_
       simp only [Act.put]
       refine wpAnyH_take (i:=19) (v:=.agg cs1.toArray) rfl (by kernel_rfl) (by kernel_rfl) (by kernel_rfl) (fun _ _ _ h=>h) ?_ (by assumption) ?_
       ·exact yieldsIf_load_mid (by kernel_rfl) 30 _ rfl b1 (o1+k * 14+1) (by kernel_rfl) cs1 _ (fun u hu=>(HC1.out.tail.below (hu.2.2.1.mono hB) hb1).range) Tryz.underlying30 rfl hl1.out
       simp only [Act.put]
       refine wpAnyH_take (i:=20) (v:=.pointer (some ⟨w.heap.size+1,12,none⟩)) rfl (by kernel_rfl) (by kernel_rfl) (by kernel_rfl) (fun _ _ _ h=>h) (Or.inl ⟨by kernel_rfl,fun u hu=>by go_simp⟩) (by assumption) ?_
       simp only [Act.put]
       refine wpAnyH_take (i:=21) (v:=.slice (some ⟨b2,o2,none⟩) v.fields.length vd) rfl (by kernel_rfl) (by kernel_rfl) (by kernel_rfl) (fun _ _ _ h=>h) (Or.inl ⟨by kernel_rfl,fun u hu=>by have hc:=aj.get0 hu.2.1 HG.out.fields;go_simp⟩) (by assumption) ?_
       simp only [Act.put]
       refine wpAnyH_take (i:=22) (v:=.int .i64 k) rfl (by kernel_rfl) (by kernel_rfl) (by kernel_rfl) (fun _ _ _ h=>h) (Or.inl ⟨by kernel_rfl,fun u hu=>by go_simp⟩) (by assumption) ?_
       simp only [Act.put]
       refine wpAnyH_take (i:=23) (v:=.pointer (some ⟨b2,o2+k * 14,none⟩)) rfl (by kernel_rfl) (by kernel_rfl) (by kernel_rfl) (fun _ _ _ h=>h) (Or.inl ⟨by kernel_rfl,fun u hu=>by go_simp⟩) (by assumption) ?_
       simp only [Act.put]
       refine wpAnyH_take (i:=24) (v:=.pointer (some ⟨b2,o2+k * 14+1,none⟩)) rfl (by kernel_rfl) (by kernel_rfl) (by kernel_rfl) (fun _ _ _ h=>h) (Or.inl ⟨by kernel_rfl,fun u hu=>by go_simp⟩) (by assumption) ?_
       simp only [Act.put]
       refine wpAnyH_take (i:=25) (v:=.agg ds1.toArray) rfl (by kernel_rfl) (by kernel_rfl) (by kernel_rfl) (fun _ _ _ h=>h) ?_ (by assumption) ?_
       ·exact yieldsIf_load_mid (by kernel_rfl) 30 _ rfl b2 (o2+k * 14+1) (by kernel_rfl) ds1 _ (fun u hu=>(HC2.out.tail.below (hu.2.2.1.mono hB) hb2).range) Tryz.underlying30 rfl hl2.out
       simp only [Act.put]
       refine rd1 26 rfl (fun K hK=>?_)
       go_simp
       refine (IH.out _ _ B N cs1 ds1 HFC.out hN (Nat.le_trans hB hHeld.2.2.1.size) (HV1.out.below (hHeld.2.2.1.mono hB)) (HV2.out.below (hHeld.2.2.1.mono hB))).mono ?_
       rintro e w2 ⟨rfl,hb⟩
       refine hK.out _ _ ⟨hHeld.1.below hb (by omega),hHeld.2.1.below hb (by omega),ae hHeld.2.2.1 hb,Nat.le_trans hHeld.2.2.2 hb.size⟩ (fun hHeld1=>?_)
       clear hK K hb hHeld
       refine rd1 27 rfl (fun K hK=>?_)
       go_simp
       refine hK.out _ _ hHeld1 (fun hHeld2=>?_)
       clear hK K hHeld2
       refine rd1 28 rfl (fun K hK=>?_)
       go_simp
       refine hK.out _ _ hHeld1 (fun hHeld2=>?_)
       clear hK K hHeld2
       refine wpAnyH_done (by kernel_rfl) ?_ _
       go_wp2_with fail
       go_roundw
       case rel=>exact ⟨k+1,by omega,by go_num,Hd hHeld1.1,Hd hHeld1.2.1,Hd hHeld1.2.2.1,hHeld1.2.2.2⟩
       case measure=>simp [intOf];omega
      ·go_wp2_with fail
       go_ret
       exact ⟨rfl,H0.out⟩
end Go.Proofs.YtiefeajappjnbaaGreatDoor

/- The reference's Same and SameFuncs (datakitref36): of two copies of one tree they say yes. -/
namespace Go.Proofs.YtiefeajappjnbaaGreatDoor
open Go.RowKit
theorem aj.get1 {w:World} {b o:Nat} {cs:List Value} (h:aj w b o cs) {v:Value} (hv:cs[1]?=some v):w.cell? ⟨b,o+1,none⟩=some v:=by
 rw [h 1 (List.getElem?_eq_some_iff.1 hv).1,hv]
theorem aj.body {w:World} {b o:Nat} {cs es:List Value} (h:aj w b o cs) (hv:cs.drop 2=es):aj w b (o+2) es:=fun j hj=>by
 subst hv
 rw [List.length_drop] at hj
 rw [show o+2+j=o+(2+j) by omega,h (2+j) (by omega),List.getElem?_drop]
theorem Cn (s:ByteArray) (v:Bool) (w:World):(Op.equalIn 10000 120 (.agg #[.string s,.bool v]) (.agg #[.string s,.bool v])).run Tryz.prog w=.ok true w:=by
 have u4:=Tryz.underlying4
 have a4:=Tryz.isAgg4
 have z4:=Tryz.sizeOf4
 have u9:=Tryz.underlying9
 have a9:=Tryz.isAgg9
 have z9:=Tryz.sizeOf9
 have hS:Tryz.prog.underlying 120=some (.struct (Tryz.prog.fieldsOf 120)):=by kernel_rfl
 have hp:Tryz.prog.stoodInHeld 120=false:=by kernel_rfl
 rw [show (10000:Nat)=9999+1 from rfl,run_equalIn_agg w 9999 120 _ _ hS hp]
 simp only [Program.fieldsOf,Tryz.underlying120]
 go_simp
theorem xA:Program.eqGuardType Tryz.prog Tryz.prog.depth 120=false:=by kernel_rfl
theorem vW (s:ByteArray) (v:Bool):(Tryz.prog.info? 120).map (·.size)=some ([Value.string s,.bool v]).length:=by kernel_rfl
mutual
theorem j0:∀ v:ar,∃ n,ik n v
 | .mk k b d t x y l f=>by
   obtain ⟨n,hn⟩:=qg l
   obtain ⟨m,hm⟩:=qh f
   exact ⟨n+m+1,fun x hx=>cY n _ x (hn x hx) (by omega),fun g hg=>cY m _ g.2 (hm g hg) (by omega)⟩
theorem qg:∀ l:List ar,∃ n,∀ x∈l,ik n x
 | []=>⟨0,by simp⟩
 | v::r=>by
   obtain ⟨n,hn⟩:=j0 v
   obtain ⟨m,hm⟩:=qg r
   exact ⟨n+m,fun x hx=>by
    rcases List.mem_cons.1 hx with rfl | hx
    ·exact cY n _ x hn (by omega)
    ·exact cY m _ x (hm x hx) (by omega)⟩
theorem qh:∀ l:List (ByteArray×ar),∃ n,∀ x∈l,ik n x.2
 | []=>⟨0,by simp⟩
 | (k,v)::r=>by
   obtain ⟨n,hn⟩:=j0 v
   obtain ⟨m,hm⟩:=qh r
   exact ⟨n+m,fun x hx=>by
    rcases List.mem_cons.1 hx with rfl | hx
    ·exact cY n _ v hn (by omega)
    ·exact cY m _ x.2 (hm x hx) (by omega)⟩
end
def iw (x:ag):Prop:=∀ (w:World) (B N:Nat) (cs ds:List Value),N≤1048576→B≤w.heap.size→ag.At w B N x cs→ag.At w B N x ds→Calls Tryz.prog 51 #[.agg cs.toArray,.agg ds.toArray] w (vt w)
def yL (l:List al):Prop:=∀ (w:World) (B N:Nat) (a b:Option Addr) (c d:Nat),l.length≤N→N≤1048576→B≤w.heap.size→av w B N l a→av w B N l b→Calls Tryz.prog 52 #[.slice a l.length c,.slice b l.length d] w (vt w)
set_option maxRecDepth 100000 in
set_option maxHeartbeats 6400000 in
theorem km (l:List al) (hA:∀ k (h:k<l.length),iw l[k].body):yL l:=by
 intro w B N a b c d hln hN hB hx hy
 have HA:=Hd hA
 have HX:=Hd hx
 have HY:=Hd hy
 clear hA hx hy
 have HS0:=Hd (Below.refl w.heap.size w)
 go_enter Tryz.func52,Tryz.ntmps52
 go_wp2_with fail
 go_simp
 go_loopw [5,6] (fun i _ wr=>∃ (k:Nat),k≤l.length∧i=.int .i64 k∧Hid (Below w.heap.size w wr))
  (fun i _ _=>l.length-(intOf i).toNat)
 case atStart=>exact ⟨0,by omega,rfl,HS0⟩
 case round =>
  obtain ⟨w1,rfl⟩:∃ w1,w1=wr:=⟨wr,rfl⟩
  obtain ⟨k,hk,rfl,H0⟩:=hrel
  clear HS0
  by_cases hlt:k<l.length
  ·obtain ⟨b1,o1,rfl,hb1,hget1⟩:=HX.out.get (by intro h;simp [h] at hlt)
   obtain ⟨b2,o2,rfl,hb2,hget2⟩:=HY.out.get (by intro h;simp [h] at hlt)
   obtain ⟨fs1,h1,h2⟩:=hget1 k hlt
   obtain ⟨fs2,h3,h4⟩:=hget2 k hlt
   have hB1:B≤w1.heap.size:=Nat.le_trans hB H0.out.size
   have HC1:=Hd (h1.below (H0.out.mono hB) hb1)
   have HC2:=Hd (h3.below (H0.out.mono hB) hb2)
   have HUW:=Hd (show ∀ u,Below w1.heap.size w1 u→Below B w1 u from fun u hu=>hu.mono hB1)
   obtain ⟨pa,pc,cs1,hf1⟩:=h2.has
   obtain ⟨pb,pd,ds1,hf2⟩:=h4.has
   have HV1:=Hd (hf1.atBody.below (H0.out.mono hB))
   have HV2:=Hd (hf2.atBody.below (H0.out.mono hB))
   have HP1:=Hd (aF.below (H0.out.mono hB) _ hf1.atPar)
   have HP2:=Hd (aF.below (H0.out.mono hB) _ hf2.atPar)
   have hnp:l[k].params.length≤N:=hf1.hp
   have hl1:=Hd (show (Tryz.prog.info? 34).map (·.size)=some cs1.length by rw [hf1.atBody.len];exact ay)
   have hl2:=Hd (show (Tryz.prog.info? 34).map (·.size)=some ds1.length by rw [hf2.atBody.len];exact ay)
   obtain ⟨nm,hnm⟩:∃ nm,nm=l[k].name:=⟨_,rfl⟩
   obtain ⟨np,hnp2⟩:∃ np,np=l[k].params.length:=⟨_,rfl⟩
   have HF1:=Hd (show fs1[0]?=some (.string nm)∧fs1[1]?=some (.slice pa np pc)∧fs1.drop 2=cs1 by rw [hnm,hnp2];exact ⟨hf1.name,hf1.params,hf1.body⟩)
   have HF2:=Hd (show fs2[0]?=some (.string nm)∧fs2[1]?=some (.slice pb np pd)∧fs2.drop 2=ds1 by rw [hnm,hnp2];exact ⟨hf2.name,hf2.params,hf2.body⟩)
   have HNP:=Hd hnp2
   have hnp3:np≤1048576:=by omega
   clear h1 h2 h3 h4 hget1 hget2 hf1 hf2 hnm hnp2 hnp
   go_wp2_with fail
   have HB0:=Hd (cG w1)
   refine wp_region_held_drew (S:=fun u=>Below w1.heap.size w1 u) (by kernel_rfl) HB0.out (fun hHeld=>?_)
   refine' tk 0 (.slice (some ⟨b1,o1,none⟩) l.length c) rfl rfl (.inl ⟨by rfl,fun u hu=>(by go_simp)⟩) hHeld ?_
   simp only [sq1,sq0]
   refine' tk 1 (.int .i64 k) rfl rfl (.inl ⟨by rfl,fun u hu=>(by go_simp)⟩) hHeld ?_
   simp only [sq1,sq0]
   refine' tk 2 (.pointer (some ⟨b1,o1+k * 19,none⟩)) rfl rfl (.inl ⟨by rfl,fun u hu=>(by go_simp)⟩) hHeld ?_
   simp only [sq1,sq0]
   refine' tk 3 (.pointer (some ⟨b1,o1+k * 19,none⟩)) rfl rfl (.inl ⟨by rfl,fun u hu=>(by go_simp)⟩) hHeld ?_
   simp only [sq1,sq0]
   refine' tk 4 (.string nm) rfl rfl (.inl ⟨by rfl,fun u hu=>(by have hc:=(HC1.out.below (HUW.out _ hu) hb1).get0' HF1.out.1;go_simp)⟩) hHeld ?_
   simp only [sq1,sq0]
   refine' tk 5 (.slice (some ⟨b2,o2,none⟩) l.length d) rfl rfl (.inl ⟨by rfl,fun u hu=>(by go_simp)⟩) hHeld ?_
   simp only [sq1,sq0]
   refine' tk 6 (.int .i64 k) rfl rfl (.inl ⟨by rfl,fun u hu=>(by go_simp)⟩) hHeld ?_
   simp only [sq1,sq0]
   refine' tk 7 (.pointer (some ⟨b2,o2+k * 19,none⟩)) rfl rfl (.inl ⟨by rfl,fun u hu=>(by go_simp)⟩) hHeld ?_
   simp only [sq1,sq0]
   refine' tk 8 (.pointer (some ⟨b2,o2+k * 19,none⟩)) rfl rfl (.inl ⟨by rfl,fun u hu=>(by go_simp)⟩) hHeld ?_
   simp only [sq1,sq0]
   refine' tk 9 (.string nm) rfl rfl (.inl ⟨by rfl,fun u hu=>(by have hc:=(HC2.out.below (HUW.out _ hu) hb2).get0' HF2.out.1;go_simp)⟩) hHeld ?_
   simp only [sq1,sq0]
   refine' tk 10 (.bool false) rfl rfl (.inl ⟨by rfl,fun u hu=>(by go_simp)⟩) hHeld ?_
   simp only [sq1,sq0]
   refine' tk 11 (.bool false) rfl rfl (.inl ⟨by rfl,fun u hu=>(by go_simp)⟩) hHeld ?_
   simp only [sq1,sq0]
   refine' tk 12 (.slice (some ⟨b1,o1,none⟩) l.length c) rfl rfl (.inl ⟨by rfl,fun u hu=>(by go_simp)⟩) hHeld ?_
   simp only [sq1,sq0]
   refine' tk 13 (.int .i64 k) rfl rfl (.inl ⟨by rfl,fun u hu=>(by go_simp)⟩) hHeld ?_
   simp only [sq1,sq0]
   refine' tk 14 (.pointer (some ⟨b1,o1+k * 19,none⟩)) rfl rfl (.inl ⟨by rfl,fun u hu=>(by go_simp)⟩) hHeld ?_
   simp only [sq1,sq0]
   refine' tk 15 (.pointer (some ⟨b1,o1+k * 19+1,none⟩)) rfl rfl (.inl ⟨by rfl,fun u hu=>(by go_simp)⟩) hHeld ?_
   simp only [sq1,sq0]
   refine' tk 16 (.slice pa np pc) rfl rfl (.inl ⟨by rfl,fun u hu=>(by have hc:=(HC1.out.below (HUW.out _ hu) hb1).get1 HF1.out.2.1;go_simp)⟩) hHeld ?_
   simp only [sq1,sq0]
   refine' tk 17 (.int .i64 np) rfl rfl (.inl ⟨by rfl,fun u hu=>(by go_simp)⟩) hHeld ?_
   simp only [sq1,sq0]
   refine' tk 18 (.slice (some ⟨b2,o2,none⟩) l.length d) rfl rfl (.inl ⟨by rfl,fun u hu=>(by go_simp)⟩) hHeld ?_
   simp only [sq1,sq0]
   refine' tk 19 (.int .i64 k) rfl rfl (.inl ⟨by rfl,fun u hu=>(by go_simp)⟩) hHeld ?_
   simp only [sq1,sq0]
   refine' tk 20 (.pointer (some ⟨b2,o2+k * 19,none⟩)) rfl rfl (.inl ⟨by rfl,fun u hu=>(by go_simp)⟩) hHeld ?_
   simp only [sq1,sq0]
   refine' tk 21 (.pointer (some ⟨b2,o2+k * 19+1,none⟩)) rfl rfl (.inl ⟨by rfl,fun u hu=>(by go_simp)⟩) hHeld ?_
   simp only [sq1,sq0]
   refine' tk 22 (.slice pb np pd) rfl rfl (.inl ⟨by rfl,fun u hu=>(by have hc:=(HC2.out.below (HUW.out _ hu) hb2).get1 HF2.out.2.1;go_simp)⟩) hHeld ?_
   simp only [sq1,sq0]
   refine' tk 23 (.int .i64 np) rfl rfl (.inl ⟨by rfl,fun u hu=>(by go_simp)⟩) hHeld ?_
   simp only [sq1,sq0]
   refine' tk 24 (.bool false) rfl rfl (.inl ⟨by rfl,fun u hu=>(by go_simp)⟩) hHeld ?_
   simp only [sq1,sq0]
   refine' tk 25 (.bool false) rfl rfl (.inl ⟨by rfl,fun u hu=>(by go_simp)⟩) hHeld ?_
   simp only [sq1,sq0]
   refine' tk 26 (.bool false) rfl rfl (.inl ⟨by rfl,fun u hu=>(by go_simp)⟩) hHeld ?_
   simp only [sq1,sq0]
   refine' tk 27 (.slice (some ⟨b1,o1,none⟩) l.length c) rfl rfl (.inl ⟨by rfl,fun u hu=>(by go_simp)⟩) hHeld ?_
   simp only [sq1,sq0]
   refine' tk 28 (.int .i64 k) rfl rfl (.inl ⟨by rfl,fun u hu=>(by go_simp)⟩) hHeld ?_
   simp only [sq1,sq0]
   refine' tk 29 (.pointer (some ⟨b1,o1+k * 19,none⟩)) rfl rfl (.inl ⟨by rfl,fun u hu=>(by go_simp)⟩) hHeld ?_
   simp only [sq1,sq0]
   refine' tk 30 (.pointer (some ⟨b1,o1+k * 19+2,none⟩)) rfl rfl (.inl ⟨by rfl,fun u hu=>(by go_simp)⟩) hHeld ?_
   simp only [sq1,sq0]
   refine' tk 31 _ rfl rfl (yieldsIf_load_mid (by kernel_rfl) 34 _ rfl (b1) (o1+k * 19+2) rfl cs1 _ (fun u hu=>((HC1.out.below (HUW.out _ hu) hb1).body HF1.out.2.2).range) Tryz.underlying34 rfl hl1.out) hHeld ?_
   simp only [sq1,sq0]
   refine' tk 32 (.slice (some ⟨b2,o2,none⟩) l.length d) rfl rfl (.inl ⟨by rfl,fun u hu=>(by go_simp)⟩) hHeld ?_
   simp only [sq1,sq0]
   refine' tk 33 (.int .i64 k) rfl rfl (.inl ⟨by rfl,fun u hu=>(by go_simp)⟩) hHeld ?_
   simp only [sq1,sq0]
   refine' tk 34 (.pointer (some ⟨b2,o2+k * 19,none⟩)) rfl rfl (.inl ⟨by rfl,fun u hu=>(by go_simp)⟩) hHeld ?_
   simp only [sq1,sq0]
   refine' tk 35 (.pointer (some ⟨b2,o2+k * 19+2,none⟩)) rfl rfl (.inl ⟨by rfl,fun u hu=>(by go_simp)⟩) hHeld ?_
   simp only [sq1,sq0]
   refine' tk 36 _ rfl rfl (yieldsIf_load_mid (by kernel_rfl) 34 _ rfl (b2) (o2+k * 19+2) rfl ds1 _ (fun u hu=>((HC2.out.below (HUW.out _ hu) hb2).body HF2.out.2.2).range) Tryz.underlying34 rfl hl2.out) hHeld ?_
   simp only [sq1,sq0]
   refine rd1 37 rfl (fun K hK=>?_)
   go_simp
   refine (HA.out k hlt _ B N cs1 ds1 hN (Nat.le_trans hB1 hHeld.size) (HV1.out.below (HUW.out _ hHeld)) (HV2.out.below (HUW.out _ hHeld))).mono ?_
   rintro e w2 ⟨rfl,hb⟩
   refine hK.out _ _ (ae hHeld hb) (fun hHeld1=>?_)
   clear hK K hb hHeld
   refine rd1 38 rfl (fun K hK=>?_)
   go_simp
   refine hK.out _ _ hHeld1 (fun hHeldx=>?_)
   clear hK K hHeldx
   refine rd1 39 rfl (fun K hK=>?_)
   go_simp
   refine hK.out _ _ hHeld1 (fun hHeldx=>?_)
   clear hK K hHeldx
   refine wpAnyH_done (by kernel_rfl) ?_ _
   go_wp2_with fail
   obtain ⟨w3,hw3⟩:∃ w3,w3=w2:=⟨_,rfl⟩
   have H3:=Hd hHeld1
   clear hw3 hHeld1
   go_simp
   go_loopw [6] (fun i wr=>∃ (j:Nat),j≤np∧i=.int .i64 j∧Hid (Below w1.heap.size w1 wr))
    (fun i _=>np-(intOf i).toNat)
   case atStart=>exact ⟨0,by omega,rfl,H3⟩
   case round =>
    obtain ⟨w4,rfl⟩:∃ w4,w4=wr:=⟨wr,rfl⟩
    obtain ⟨j,hj,rfl,H4⟩:=hrel
    have d1:=(HC1.out.below (HUW.out _ H4.out) hb1).get1 HF1.out.2.1
    have d2:=(HC2.out.below (HUW.out _ H4.out) hb2).get1 HF2.out.2.1
    by_cases hjt:j<np
    ·have hjt':j<l[k].params.length:=by rw [← HNP.out];exact hjt
     obtain ⟨b3,o3,rfl,hb3,hg3⟩:=HP1.out.get (by intro h;rw [h] at hjt';simp at hjt')
     obtain ⟨b4,o4,rfl,hb4,hg4⟩:=HP2.out.get (by intro h;rw [h] at hjt';simp at hjt')
     obtain ⟨pn,hpn⟩:∃ pn,pn=l[k].params[j].name:=⟨_,rfl⟩
     obtain ⟨pv,hpv⟩:∃ pv,pv=l[k].params[j].value:=⟨_,rfl⟩
     have HU4:=Hd (show ∀ u,Below w4.heap.size w4 u→Below B w1 u from fun u hu=>HUW.out _ (ae H4.out hu))
     have r3:=Hd (show ∀ u,Below w4.heap.size w4 u→aj u b3 (o3+j * 2) [.string pn,.bool pv] from fun u hu=>by rw [hpn,hpv];exact (hg3 j hjt').2.below (HU4.out u hu) hb3)
     have r4:=Hd (show ∀ u,Below w4.heap.size w4 u→aj u b4 (o4+j * 2) [.string pn,.bool pv] from fun u hu=>by rw [hpn,hpv];exact (hg4 j hjt').2.below (HU4.out u hu) hb4)
     have hz:=Hd (vW pn pv)
     have E1:=Cn pn pv
     have G1:=xA
     clear hg3 hg4 hpn hpv
     go_wp2_with fail
     have HB0:=Hd (cG w4)
     refine wp_region_held_drew (S:=fun u=>Below w4.heap.size w4 u) (by kernel_rfl) HB0.out (fun hHeld=>?_)
     refine' tk 0 (.slice (some ⟨b1,o1,none⟩) l.length c) rfl rfl (.inl ⟨by rfl,fun u hu=>(by go_simp)⟩) hHeld ?_
     simp only [sq1,sq0]
     refine' tk 1 (.int .i64 k) rfl rfl (.inl ⟨by rfl,fun u hu=>(by go_simp)⟩) hHeld ?_
     simp only [sq1,sq0]
     refine' tk 2 (.pointer (some ⟨b1,o1+k * 19,none⟩)) rfl rfl (.inl ⟨by rfl,fun u hu=>(by go_simp)⟩) hHeld ?_
     simp only [sq1,sq0]
     refine' tk 3 (.pointer (some ⟨b1,o1+k * 19+1,none⟩)) rfl rfl (.inl ⟨by rfl,fun u hu=>(by go_simp)⟩) hHeld ?_
     simp only [sq1,sq0]
     refine' tk 4 (.slice (some ⟨b3,o3,none⟩) np pc) rfl rfl (.inl ⟨by rfl,fun u hu=>(by have hc:=(HC1.out.below (HU4.out _ hu) hb1).get1 HF1.out.2.1;go_simp)⟩) hHeld ?_
     simp only [sq1,sq0]
     refine' tk 5 (.int .i64 j) rfl rfl (.inl ⟨by rfl,fun u hu=>(by go_simp)⟩) hHeld ?_
     simp only [sq1,sq0]
     refine' tk 6 (.pointer (some ⟨b3,o3+j * 2,none⟩)) rfl rfl (.inl ⟨by rfl,fun u hu=>(by go_simp)⟩) hHeld ?_
     simp only [sq1,sq0]
     refine' tk 7 _ rfl rfl (yieldsIf_load_mid (by kernel_rfl) 120 _ rfl (b3) (o3+j * 2) rfl [.string pn,.bool pv] _ (fun u hu=>(r3.out _ hu).range) Tryz.underlying120 rfl hz.out) hHeld ?_
     simp only [sq1,sq0]
     refine' tk 8 (.slice (some ⟨b2,o2,none⟩) l.length d) rfl rfl (.inl ⟨by rfl,fun u hu=>(by go_simp)⟩) hHeld ?_
     simp only [sq1,sq0]
     refine' tk 9 (.int .i64 k) rfl rfl (.inl ⟨by rfl,fun u hu=>(by go_simp)⟩) hHeld ?_
     simp only [sq1,sq0]
     refine' tk 10 (.pointer (some ⟨b2,o2+k * 19,none⟩)) rfl rfl (.inl ⟨by rfl,fun u hu=>(by go_simp)⟩) hHeld ?_
     simp only [sq1,sq0]
     refine' tk 11 (.pointer (some ⟨b2,o2+k * 19+1,none⟩)) rfl rfl (.inl ⟨by rfl,fun u hu=>(by go_simp)⟩) hHeld ?_
     simp only [sq1,sq0]
     refine' tk 12 (.slice (some ⟨b4,o4,none⟩) np pd) rfl rfl (.inl ⟨by rfl,fun u hu=>(by have hc:=(HC2.out.below (HU4.out _ hu) hb2).get1 HF2.out.2.1;go_simp)⟩) hHeld ?_
     simp only [sq1,sq0]
     refine' tk 13 (.int .i64 j) rfl rfl (.inl ⟨by rfl,fun u hu=>(by go_simp)⟩) hHeld ?_
     simp only [sq1,sq0]
     refine' tk 14 (.pointer (some ⟨b4,o4+j * 2,none⟩)) rfl rfl (.inl ⟨by rfl,fun u hu=>(by go_simp)⟩) hHeld ?_
     simp only [sq1,sq0]
     refine' tk 15 _ rfl rfl (yieldsIf_load_mid (by kernel_rfl) 120 _ rfl (b4) (o4+j * 2) rfl [.string pn,.bool pv] _ (fun u hu=>(r4.out _ hu).range) Tryz.underlying120 rfl hz.out) hHeld ?_
     simp only [sq1,sq0]
     refine' tk 16 (.bool false) rfl rfl (.inl ⟨by rfl,fun u hu=>(by go_simp)⟩) hHeld ?_
     simp only [sq1,sq0]
     refine wpAnyH_done (by kernel_rfl) ?_ _
     go_wp2_with fail
     go_roundw
     case rel=>exact ⟨j+1,by omega,by go_num,Hd (ae H4.out HB0.out)⟩
     case measure=>simp [intOf];omega
    ·go_wp2_with fail
     go_roundw
     case rel=>exact ⟨k+1,by omega,by go_num,Hd (ae H0.out H4.out)⟩
     case measure=>simp [intOf];omega
  ·go_wp2_with fail
   go_ret
   exact ⟨rfl,H0.out⟩
set_option maxRecDepth 100000 in
set_option maxHeartbeats 6400000 in
theorem pr (x:ag) (hA:∀ k (h:k<x.args.length),iw x.args[k]) (hF:yL x.funcs):iw x:=by
 intro w B N cs ds hN hB hx hy
 obtain ⟨aa,fa,ac,fc,vs,hh⟩:=hx.has
 obtain ⟨ba,ga,bc,gc,us,hg⟩:=hy.has
 have HA:=Hd hA
 have HF:=Hd hF
 have H0:=Hd (show Below w.heap.size w ((w.alloc (.cells cs.toArray 34)).alloc (.cells ds.toArray 34)) from ae (af w _) (af _ _))
 have hsz:((w.alloc (.cells cs.toArray 34)).alloc (.cells ds.toArray 34)).heap.size=w.heap.size+2:=by rw [World.size_alloc,World.size_alloc]
 have R0:=Hd (show aj ((w.alloc (.cells cs.toArray 34)).alloc (.cells ds.toArray 34)) w.heap.size 0 cs from (aA w cs 34).then (af _ _) (by rw [World.size_alloc];omega))
 have R1:=Hd (show aj ((w.alloc (.cells cs.toArray 34)).alloc (.cells ds.toArray 34)) (w.heap.size+1) 0 ds from by
  have:=aA (w.alloc (.cells cs.toArray 34)) ds 34
  rw [World.size_alloc] at this
  exact this)
 have hal:x.args.length≤N:=hh.own.2.2.1
 have hfl:x.funcs.length≤N:=hh.own.2.2.2
 have HV1:=Hd (hh.atVal.below (H0.out.mono hB))
 have HV2:=Hd (hg.atVal.below (H0.out.mono hB))
 have hl1:=Hd (show (Tryz.prog.info? 30).map (·.size)=some vs.length by rw [hh.atVal.len];exact bM)
 have hl2:=Hd (show (Tryz.prog.info? 30).map (·.size)=some us.length by rw [hg.atVal.len];exact bM)
 have HH:=Hd hh
 have HG:=Hd hg
 obtain ⟨nf,hnf⟩:=j0 x.val
 have HNF:=Hd hnf
 clear hA hF hx hy hh hg hnf
 have c0:=R0.out.get0 HH.out.op
 have c1:=R0.out.get0 HH.out.name
 have c15:=R0.out.get0 HH.out.args
 have d0:=R1.out.get0 HG.out.op
 have d1:=R1.out.get0 HG.out.name
 have d15:=R1.out.get0 HG.out.args
 obtain ⟨W1,hW1⟩:∃ W1,W1=(w.alloc (.cells cs.toArray 34)).alloc (.cells ds.toArray 34):=⟨_,rfl⟩
 go_enter Tryz.func51,Tryz.ntmps51
 go_wp2_with (first
  | (refine ax rfl 30 _ rfl w.heap.size 2 rfl vs _ (R0.out.part HH.out.val) Tryz.underlying30 rfl hl1.out ?_)
  | (refine ax rfl 30 _ rfl (w.heap.size+1) 2 rfl us _ (R1.out.part HG.out.val) Tryz.underlying30 rfl hl2.out ?_))
 refine (pp nf x.val _ B N vs us HNF.out (by omega) (Nat.le_trans hB H0.out.size) HV1.out HV2.out).mono ?_
 rintro e w0 ⟨rfl,hb0⟩
 have H1:=Hd (ae H0.out hb0)
 have Q0:=Hd (R0.out.then hb0 (by omega))
 have Q1:=Hd (R1.out.then hb0 (by omega))
 have hs1:w.heap.size+2≤w0.heap.size:=by have:=hb0.size;omega
 clear c0 c1 c15 d0 d1 d15 hb0
 have c15:=Q0.out.get0 HH.out.args
 have d15:=Q1.out.get0 HG.out.args
 clear R0 R1 H0 HV1 HV2 hW1 hsz
 go_wp2_with fail
 go_simp
 go_loopw [5] (fun i wr=>∃ (k:Nat),k≤x.args.length∧i=.int .i64 k∧Hid (aj wr w.heap.size 0 cs)∧Hid (aj wr (w.heap.size+1) 0 ds)∧Hid (Below w.heap.size w wr)∧w.heap.size+2≤wr.heap.size)
  (fun i _=>x.args.length-(intOf i).toNat)
 case atStart=>exact ⟨0,by omega,rfl,Q0,Q1,H1,hs1⟩
 case round =>
  clear Q0 Q1 H1 hs1 c15 d15
  obtain ⟨w1,rfl⟩:∃ w1,w1=wr:=⟨wr,rfl⟩
  obtain ⟨k,hk,rfl,R0,R1,H0,hs⟩:=hrel
  have c15:=R0.out.get0 HH.out.args
  have d15:=R1.out.get0 HG.out.args
  have hB1:B≤w1.heap.size:=Nat.le_trans hB H0.out.size
  have HUW:=Hd (show ∀ u,Below w1.heap.size w1 u→Below B w1 u from fun u hu=>hu.mono hB1)
  by_cases hlt:k<x.args.length
  ·obtain ⟨b1,o1,rfl,hb1,hget1⟩:=HH.out.atArgs.get (by intro h;simp [h] at hlt)
   obtain ⟨b2,o2,rfl,hb2,hget2⟩:=HG.out.atArgs.get (by intro h;simp [h] at hlt)
   obtain ⟨cs1,h1,h2⟩:=hget1 k hlt
   obtain ⟨ds1,h3,h4⟩:=hget2 k hlt
   have HV1:=Hd (h2.below (H0.out.mono hB))
   have HV2:=Hd (h4.below (H0.out.mono hB))
   have HC1:=Hd (h1.below (H0.out.mono hB) hb1)
   have HC2:=Hd (h3.below (H0.out.mono hB) hb2)
   have hl1:=Hd (show (Tryz.prog.info? 34).map (·.size)=some cs1.length by rw [h2.len];exact ay)
   have hl2:=Hd (show (Tryz.prog.info? 34).map (·.size)=some ds1.length by rw [h4.len];exact ay)
   clear h1 h2 h3 h4 hget1 hget2
   go_wp2_with fail
   have HB0:=Hd (cG w1)
   refine wp_region_held_drew (S:=fun u=>Below w1.heap.size w1 u) (by kernel_rfl) HB0.out (fun hHeld=>?_)
   refine' tk 0 (.pointer (some ⟨w.heap.size,15,none⟩)) rfl rfl (.inl ⟨by rfl,fun u hu=>(by go_simp)⟩) hHeld ?_
   simp only [sq1,sq0]
   refine' tk 1 (.slice (some ⟨b1,o1,none⟩) x.args.length ac) rfl rfl (.inl ⟨by rfl,fun u hu=>(by have hc:=(R0.out.then hu (by omega)).get0 HH.out.args;go_simp)⟩) hHeld ?_
   simp only [sq1,sq0]
   refine' tk 2 (.int .i64 k) rfl rfl (.inl ⟨by rfl,fun u hu=>(by go_simp)⟩) hHeld ?_
   simp only [sq1,sq0]
   refine' tk 3 (.pointer (some ⟨b1,o1+k * 17,none⟩)) rfl rfl (.inl ⟨by rfl,fun u hu=>(by go_simp)⟩) hHeld ?_
   simp only [sq1,sq0]
   refine' tk 4 _ rfl rfl (yieldsIf_load_mid (by kernel_rfl) 34 _ rfl (b1) (o1+k * 17) rfl cs1 _ (fun u hu=>((HC1.out.below (HUW.out _ hu) hb1)).range) Tryz.underlying34 rfl hl1.out) hHeld ?_
   simp only [sq1,sq0]
   refine' tk 5 (.pointer (some ⟨w.heap.size+1,15,none⟩)) rfl rfl (.inl ⟨by rfl,fun u hu=>(by go_simp)⟩) hHeld ?_
   simp only [sq1,sq0]
   refine' tk 6 (.slice (some ⟨b2,o2,none⟩) x.args.length bc) rfl rfl (.inl ⟨by rfl,fun u hu=>(by have hc:=(R1.out.then hu (by omega)).get0 HG.out.args;go_simp)⟩) hHeld ?_
   simp only [sq1,sq0]
   refine' tk 7 (.int .i64 k) rfl rfl (.inl ⟨by rfl,fun u hu=>(by go_simp)⟩) hHeld ?_
   simp only [sq1,sq0]
   refine' tk 8 (.pointer (some ⟨b2,o2+k * 17,none⟩)) rfl rfl (.inl ⟨by rfl,fun u hu=>(by go_simp)⟩) hHeld ?_
   simp only [sq1,sq0]
   refine' tk 9 _ rfl rfl (yieldsIf_load_mid (by kernel_rfl) 34 _ rfl (b2) (o2+k * 17) rfl ds1 _ (fun u hu=>((HC2.out.below (HUW.out _ hu) hb2)).range) Tryz.underlying34 rfl hl2.out) hHeld ?_
   simp only [sq1,sq0]
   refine rd1 10 rfl (fun K hK=>?_)
   go_simp
   refine (HA.out k hlt _ B N cs1 ds1 hN (Nat.le_trans hB1 hHeld.size) (HV1.out.below (HUW.out _ hHeld)) (HV2.out.below (HUW.out _ hHeld))).mono ?_
   rintro e w2 ⟨rfl,hb⟩
   refine hK.out _ _ (ae hHeld hb) (fun hHeld1=>?_)
   clear hK K hb hHeld
   refine rd1 11 rfl (fun K hK=>?_)
   go_simp
   refine hK.out _ _ hHeld1 (fun hHeldx=>?_)
   clear hK K hHeldx
   refine wpAnyH_done (by kernel_rfl) ?_ _
   go_wp2_with fail
   go_roundw
   case rel=>exact ⟨k+1,by omega,by go_num,Hd (R0.out.then hHeld1 (by omega)),Hd (R1.out.then hHeld1 (by omega)),Hd (ae H0.out hHeld1),Nat.le_trans hs hHeld1.size⟩
   case measure=>simp [intOf];omega
  ·have c16:=R0.out.get0 HH.out.funcs
   have d16:=R1.out.get0 HG.out.funcs
   go_wp2_with fail
   refine (HF.out _ B N fa ga fc gc hfl hN hB1 (av.below (H0.out.mono hB) _ HH.out.atFuncs) (av.below (H0.out.mono hB) _ HG.out.atFuncs)).mono ?_
   rintro e w2 ⟨rfl,hb⟩
   go_wp2_with fail
   go_ret
   exact ⟨rfl,ae H0.out hb⟩
theorem et:∀ (m:Nat) (x:ag),dpE m x→iw x:=by
 intro m
 induction m with
 | zero =>
   intro x h
   exact pr x (fun _ hk=>by rw [h.1] at hk;simp at hk) (km _ fun _ hk=>by rw [h.2] at hk;simp at hk)
 | succ m ih =>
   intro x h
   exact pr x (fun _ hk=>ih _ (h.1 _ (List.getElem_mem hk))) (km _ fun _ hk=>ih _ (h.2 _ (List.getElem_mem hk)))
theorem v8 {m:Nat} {l:List al} (h:∀ f∈l,dpE m f.body):yL l:=km l fun _ hk=>et m _ (h _ (List.getElem_mem hk))
end Go.Proofs.YtiefeajappjnbaaGreatDoor
