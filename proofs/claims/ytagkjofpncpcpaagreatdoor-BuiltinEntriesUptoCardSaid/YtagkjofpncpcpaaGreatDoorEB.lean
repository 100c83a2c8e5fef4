/- value.Field with its bool. -/
import Derived.Test.YtagkjofpncpcpaaGreatDoorProg
import Derived.Test.YtagkjofpncpcpaaGreatDoorGA
import Derived.Test.YtagkjofpncpcpaaGreatDoorGB
import Derived.Test.YtagkjofpncpcpaaGreatDoorGC
import Derived.Test.YtagkjofpncpcpaaGreatDoorGD
import Derived.Test.YtagkjofpncpcpaaGreatDoorHN
import Derived.Test.YtagkjofpncpcpaaGreatDoorXA
import Derived.Test.YtagkjofpncpcpaaGreatDoorXD
import Derived.Test.YtagkjofpncpcpaaGreatDoorXK
import Derived.Test.YtagkjofpncpcpaaGreatDoorJA
import Derived.Test.YtagkjofpncpcpaaGreatDoorEA
namespace Go.Proofs.YtagkjofpncpcpaaGreatDoor
open Go.RowKit
def fldP (key:ByteArray):List (ByteArray×ValD)→ValD×Bool
 | []=>(zeroD,false)
 | (k,v)::r=>if k.toList=key.toList then (v,true) else fldP key r
theorem fldP_hit {key:ByteArray} {l:List (ByteArray×ValD)} {k:Nat} (h:k<l.length) (he:l[k].1.toList=key.toList):fldP key (l.drop k)=(l[k].2,true):=by
 rw [List.drop_eq_getElem_cons h,← Prod.eta l[k]]
 simp [fldP,he]
theorem fldP_miss {key:ByteArray} {l:List (ByteArray×ValD)} {k:Nat} (h:k<l.length) (he:¬ l[k].1.toList=key.toList):fldP key (l.drop k)=fldP key (l.drop (k+1)):=by
 rw [List.drop_eq_getElem_cons h,← Prod.eta l[k]]
 simp [fldP,he]
theorem fldP_end {key:ByteArray} {l:List (ByteArray×ValD)}:fldP key (l.drop l.length)=(zeroD,false):=by rw [List.drop_length];rfl
def FldB (B N:Nat) (r:ValD×Bool) (w:World) (e:Ending) (w':World):Prop:=∃ (cs:List Value),e=.returned (.tuple #[.agg cs.toArray,.bool r.2])∧Solid B w.heap.size w' (fun c=>ValD.At c c.heap.size N r.1 cs)∧Below w.heap.size w w'
set_option maxRecDepth 100000 in
set_option maxHeartbeats 3200000 in
theorem field_b (n:Nat) (v:ValD) (key:ByteArray) (w:World) (B N:Nat) (cs:List Value) (hn:n≤65536) (hf:fitsV (n+1) v) (hN:N≤4294967296) (hB:B≤w.heap.size) (hk7:v.kind=7) (hv:ValD.At w B N v cs) :
 Calls Tryz.prog 112 #[.agg cs.toArray,.string key] w (FldB B N (fldP key v.fields) w):=by
 obtain ⟨ya,la,va,yc,lc,vc,hh⟩:=hv.has
 have hfl:v.fields.length≤N:=hh.own.2.2.2.2.2.2.2.2.2.2
 have HH:=Hd hh
 have HF:=Hd hf
 have HK:=Hd hk7
 clear hv hh hf hk7
 have H0:=Hd (show Below w.heap.size w ((w.alloc (.cells cs.toArray 30)).alloc (.cells zeroV 30)) from belowThen (belowBox w _) (belowBox _ _))
 have R0:=Hd (show CellsAt ((w.alloc (.cells cs.toArray 30)).alloc (.cells zeroV 30)) w.heap.size 0 cs from (box_at w cs 30).then (belowBox _ _) (by rw [World.size_alloc];omega))
 have Q0:=Hd (show RowAt ((w.alloc (.cells cs.toArray 30)).alloc (.cells zeroV 30)) (w.heap.size+1) zeroV.toList from new_row w _ zeroV.toList)
 have z12:=HH.out.fields
 go_enter Tryz.func112,Tryz.ntmps112
 go_wp2_with fail
 go_simp
 go_loopw [11] (fun i wr=>∃ (k:Nat),k≤v.fields.length∧i=.int .i64 k∧Hid (fldP key v.fields=fldP key (v.fields.drop k))∧Hid (CellsAt wr w.heap.size 0 cs)∧Hid (RowAt wr (w.heap.size+1) zeroV.toList)∧Hid (Below w.heap.size w wr)∧w.heap.size+2≤wr.heap.size)
  (fun i _=>v.fields.length-(intOf i).toNat)
 case atStart=>exact ⟨0,by omega,rfl,Hd rfl,R0,Q0,H0,by simp⟩
 case round =>
  clear R0 Q0 H0 z12
  obtain ⟨w1,rfl⟩:∃ w1,w1=wr:=⟨wr,rfl⟩
  obtain ⟨k,hk,rfl,HE,R0,Q0,H0,hs⟩:=hrel
  have c0:=R0.out.get0 HH.out.kind
  rw [HK.out] at c0
  have c12:=R0.out.get0 HH.out.fields
  by_cases hlt:k<v.fields.length
  ·obtain ⟨b1,o1,rfl,hb1,hget1⟩:=HH.out.atFields.get (by intro h;simp [h] at hlt)
   obtain ⟨cs1,_,h1,h2⟩:=hget1 k hlt
   obtain ⟨ky,hky⟩:∃ ky,ky=v.fields[k].1:=⟨_,rfl⟩
   rw [← hky] at h1
   have HR:=Hd (h1.below (H0.out.mono hB) hb1).range
   have HV1:=Hd h2
   have hlen:=h2.len
   have hl1:=Hd (show (Tryz.prog.info? 41).map (·.size)=some (Value.string ky::cs1).length by rw [List.length_cons,h2.len];exact sizeF)
   have hl2:=Hd (show (Tryz.prog.info? 41).map (·.size)=some (Value.string ky::cs1).toArray.size by rw [List.size_toArray,List.length_cons,h2.len];exact sizeF)
   have hl3:=Hd (show zeroF.size=(Value.string ky::cs1).toArray.size by show 14=_;rw [List.size_toArray,List.length_cons,h2.len])
   have hl4:=Hd (show (Tryz.prog.info? 30).map (·.size)=some cs1.length by rw [h2.len];exact sizeV)
   have hone:=Hd (show (Value.string ky::cs1).toArray.all (·.oneCell')=true from Go.all_oneCell_toArray (fun u hu=>by
    rcases List.mem_cons.1 hu with rfl | hu
    ·rfl
    ·exact h2.oneCell u hu))
   have HFC:=Hd (HF.out.2 v.fields[k] (List.getElem_mem hlt))
   have HX:=Hd (show Below w1.heap.size w1 (w1.alloc (.cells (.string ky::cs1).toArray 41)) from belowBox w1 _)
   have RB:=Hd (box_at w1 (.string ky::cs1) 41)
   have eb:=RB.out.get0 (j:=0) (v:=.string ky) rfl
   have ec:(w1.alloc (.cells (.string ky::cs1).toArray 41)).cell? ⟨w.heap.size,0,none⟩=some (.int .i64 7):=by rw [World.cell?_alloc_lt _ _ _ (by show w.heap.size<_;omega)];exact c0
   by_cases hq:ky.toList=key.toList
   ·have q1:(ky.toList==key.toList)=true:=by simpa using hq
    have HE2:=Hd (show fldP key v.fields=(v.fields[k].2,true) by rw [HE.out];exact fldP_hit hlt (by rw [← hky];exact hq))
    clear hq hky h1 h2 hget1
    go_wp2_with (first
     | (refine wpList_load_mid rfl 41 _ rfl b1 (o1+k * 14) rfl (.string ky::cs1) _ HR.out Tryz.underlying41 rfl hl1.out ?_)
     | (refine wpList_store_new rfl 41 _ _ rfl zeroF (.string ky::cs1).toArray rfl rfl hl2.out hl3.out hone.out ?_)
     | (refine wpList_load_mid rfl 30 _ rfl w1.heap.size 1 rfl cs1 _ RB.out.tail.range Tryz.underlying30 rfl hl4.out ?_))
    refine (copied_ex n v.fields[k].2 _ B N cs1 65536 (by omega) (by omega) HFC.out hN (Nat.le_trans hB (Nat.le_trans H0.out.size HX.out.size)) (HV1.out.below ((belowThen H0.out HX.out).mono hB))).mono ?_
    rintro e w2 ⟨cs2,rfl,hsafe,hb⟩
    have hs2:w1.heap.size<w2.heap.size:=by have:=hb.size;rw [World.size_alloc] at this;omega
    have Q1:=Hd (((Q0.out.below HX.out (by omega)).below hb (by rw [World.size_alloc];omega)))
    have H1:=Hd (belowThen (belowThen H0.out HX.out) hb)
    have A1:=Hd hsafe.here
    have hlen2:=hsafe.here.len
    have S1:=Hd (show Safe (w1.heap.size+1) none (w2.setRow (w.heap.size+1) cs2.toArray) (fun c=>ValD.At c c.heap.size N v.fields[k].2 cs2) from by rw [← World.size_alloc w1 (.cells (.string ky::cs1).toArray 41)];exact Safe.next (no2:=none) hsafe (keep_setRow w2 (w.heap.size+1) _ cs2.toArray (by rw [World.size_alloc];omega)) (fun q _ h=>by cases h))
    clear hsafe hb
    go_wp2_with (refine wpList_store_row rfl 30 _ _ rfl (w.heap.size+1) cs2.toArray rfl rfl 30 zeroV Q1.out (row_size hlen2) (row_zero hlen2) (row_ones A1.out) ?_)
    refine bodyPost_ret (results_cell_row2 rfl _ _ (w.heap.size+1) 30 _ (0,0) _ rfl (setRow_heap _ _ _ _ _ _ Q1.out) Tryz.underlying30 rfl (row_size hlen2)) rfl ?_
    refine ⟨cs2,(by rw [HE2.out];rfl),fun c hc=>?_,below_setRow H1.out (by omega) _⟩
    rw [HE2.out]
    exact S1.out c (hc.keep.wide (by omega))
   ·have q1:(ky.toList==key.toList)=false:=by simpa using hq
    have HE2:=Hd (show fldP key v.fields=fldP key (v.fields.drop (k+1)) by rw [HE.out];exact fldP_miss hlt (by rw [← hky];exact hq))
    clear hq hky h1 h2 hget1
    go_wp2_with (first
     | (refine wpList_load_mid rfl 41 _ rfl b1 (o1+k * 14) rfl (.string ky::cs1) _ HR.out Tryz.underlying41 rfl hl1.out ?_)
     | (refine wpList_store_new rfl 41 _ _ rfl zeroF (.string ky::cs1).toArray rfl rfl hl2.out hl3.out hone.out ?_))
    go_roundw
    case rel=>exact ⟨k+1,by omega,by go_num,HE2,Hd (R0.out.below HX.out (by omega)),Hd (Q0.out.below HX.out (by omega)),Hd (belowThen H0.out HX.out),by rw [World.size_alloc];omega⟩
    case measure=>simp [intOf];omega
  ·obtain rfl:k=v.fields.length:=by omega
   have HE2:=Hd (show fldP key v.fields=(zeroD,false) by rw [HE.out];exact fldP_end)
   go_wp2_with (refine wpList_store_row rfl 30 _ _ rfl (w.heap.size+1) zeroV rfl rfl 30 zeroV Q0.out sizeZ rfl oneZ ?_)
   refine bodyPost_ret (results_cell_row2 rfl _ _ (w.heap.size+1) 30 _ (0,0) _ rfl (setRow_heap _ _ _ _ _ _ Q0.out) Tryz.underlying30 rfl sizeZ) rfl ?_
   refine ⟨zeroV.toList,(by rw [HE2.out];rfl),fun c _=>?_,below_setRow H0.out (by omega) _⟩
   rw [HE2.out]
   exact zeroD_at _ _ _
end Go.Proofs.YtagkjofpncpcpaaGreatDoor

/- What value.Field finds in an entry, and in a map at each of its keys. -/
namespace Go.Proofs.YtagkjofpncpcpaaGreatDoor
open Go.RowKit
theorem fldP_key (k:ByteArray) (x:ValD):fldP keyB (entD k x).fields=(textD k,true):=by
 show fldP keyB [(keyB,textD k),(valB,x)]=_
 unfold fldP
 rw [if_pos rfl]
theorem fldP_val (k:ByteArray) (x:ValD):fldP valB (entD k x).fields=(x,true):=by
 show fldP valB [(keyB,textD k),(valB,x)]=_
 unfold fldP
 rw [if_neg (show ¬ keyB.toList=valB.toList by rw [ByteArray.toList_eq,ByteArray.toList_eq];decide)]
 unfold fldP
 rw [if_pos rfl]
theorem fldP_mem (key:ByteArray):∀ (l:List (ByteArray×ValD)),(∃ f∈l,f.1=key)→(fldP key l).2=true
 | [],h=>by
   obtain ⟨_,h,_⟩:=h
   cases h
 | (k,v)::r,h=>by
   unfold fldP
   by_cases e:k.toList=key.toList
   ·rw [if_pos e]
   ·rw [if_neg e]
    obtain ⟨f,hf,rfl⟩:=h
    rcases List.mem_cons.1 hf with rfl | hf
    ·exact absurd rfl e
    ·exact fldP_mem _ r ⟨f,hf,rfl⟩
end Go.Proofs.YtagkjofpncpcpaaGreatDoor
