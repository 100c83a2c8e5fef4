/- canon.write of what is no list and no map (printed by genwri.py). -/
import Derived.Test.YtniljgkkcnekgaaGreatDoorProg
import Derived.Test.YtniljgkkcnekgaaGreatDoorGA
import Derived.Test.YtniljgkkcnekgaaGreatDoorGB
import Derived.Test.YtniljgkkcnekgaaGreatDoorGD
import Derived.Test.YtniljgkkcnekgaaGreatDoorGC
import Derived.Test.YtniljgkkcnekgaaGreatDoorGZ
import Derived.Test.YtniljgkkcnekgaaGreatDoorGT
import Derived.Test.YtniljgkkcnekgaaGreatDoorBL
import Derived.Test.YtniljgkkcnekgaaGreatDoorCN
import Derived.Test.YtniljgkkcnekgaaGreatDoorEnb41
import Derived.Test.YtniljgkkcnekgaaGreatDoorTit41
import Derived.Test.YtniljgkkcnekgaaGreatDoorNum36
import Derived.Test.YtniljgkkcnekgaaGreatDoorNug41
namespace Go.Proofs.YtniljgkkcnekgaaGreatDoor
namespace Stb
end Stb
open Go.RowKit Stb
theorem cells_nums (x:ByteArray):Lib.strCells x=numL (nums x):=by
 unfold Lib.strCells numL nums
 rw [List.map_map]
 rfl
theorem nums_app (a b:ByteArray):nums (a++b)=nums a++nums b:=by
 unfold nums
 rw [ByteArray.data_append,Array.toList_append,List.map_append]
theorem nums_strOf {l:List Int} (h:∀ x∈l,0≤x∧x≤255):nums (strOfNums l)=l:=by
 unfold nums
 rw [strOfNums_data,List.map_map]
 conv=>rhs;rw [← List.map_id l]
 refine List.map_congr_left fun x hx=>?_
 have:=h x hx
 show ((UInt8.ofNat x.toNat).toNat:Int)=x
 rw [UInt8.toNat_ofNat_of_lt' (by show x.toNat<256;omega)]
 omega
theorem b64D_range (n:Nat):0≤b64D n∧b64D n≤255:=by
 unfold b64D
 by_cases h:n<b64L.length
 ·have ha:∀ x∈b64L,0≤x∧x≤255:=by decide
  rw [List.getD_eq_getElem?_getD,List.getElem?_eq_getElem h]
  exact ha _ (List.getElem_mem h)
 ·rw [List.getD_eq_getElem?_getD,List.getElem?_eq_none (by omega)]
  decide
theorem b64S_range (l:List Int):∀ x∈b64S l,0≤x∧x≤255:=by
 intro x hx
 obtain ⟨k,_,rfl⟩:=List.mem_map.1 hx
 unfold chrN
 split
 ·exact b64D_range _
 ·decide
theorem BldS.later {L b:Nat} {w w':World} {s:Value} {bs:List Value} (h:BldS L b w s bs) (hb:Below w.heap.size w w'):BldS L b w' s bs :=
 ⟨h.row.imp (·.then hb) (·.then hb),own_then' h.own hb,h.lt,Nat.le_trans h.le hb.size⟩
theorem BldF.later {b:Nat} {w w':World} {s:Value} (hb:Below w.heap.size w w'):BldF b w s w' s:=⟨hb.os,hb.tape,hb.output,hb.size,fun q h1 _ _=>hb.block q h1,fun _ h=>.inl h⟩
theorem HoldB.bld {L b N:Nat} {v:ValD} {cs bs:List Value} {w w':World} {s s':Value} (h:HoldB L b N v cs w) (hs:BldS L b w s bs) (hf:BldF b w s w' s'):HoldB L b N v cs w' :=
 h.step (Nat.le_trans h.1 hf.size) fun q h1 h2=>hf.block q (Nat.lt_of_lt_of_le h1 h.1) h2 fun e=>by have:=(hs.own.lt q e).1;omega
theorem HoldB.boxes {L b N:Nat} {v:ValD} {cs:List Value} {w:World} (h:HoldB L b N v cs w) (o:Obj):HoldB L b N v cs (w.alloc o) :=
 h.step (by rw [World.size_alloc];have:=h.1;omega) fun q h1 _=>heap_alloc_old _ _ (Nat.lt_of_lt_of_le h1 h.1)
theorem dtextAny (d:DecD) (hv:VDec d) (w:World):Calls Tryz.prog 87 #[.agg #[.bool d.neg,.string d.digits,.int .i64 d.exp]] w (StrB (numT d) w):=by
 obtain ⟨n,s,x⟩:=d
 cases n
 ·exact dtext s x hv w
 ·exact dtext_neg s x hv w
set_option maxRecDepth 100000 in
set_option maxHeartbeats 6400000 in
theorem wri_0 {m:Nat} (L b N:Nat) (w:World) (sl:Value) (bs:List Value) (v:ValD) (cs:List Value) (_hN:N≤4294967296) (hok:okW (m+1) v) (hs:BldS L b w sl bs) (hv:HoldB L b N v cs w) (hl:bs.length+(canW (m+1) v).length≤140737480000000) (hk:v.kind=0):Calls Tryz.prog 57 #[.pointer (some ⟨b,0,none⟩),.agg cs.toArray] w (BldR L b w sl (bs++numL (canW (m+1) v)) (.tuple #[])):=by
 obtain ⟨ya,la,va,yc,lc,vc,hh⟩:=hv.here.has
 have R0:=Hd (RowT.new w 39 cs)
 have S1:=Hd (hs.boxes (.cells cs.toArray 39))
 have F1:=Hd (@BldF.box b w sl (.cells cs.toArray 39))
 have V1:=Hd (hv.boxes (.cells cs.toArray 39))
 have HH:=Hd hh
 have HOK:=Hd hok
 have HLN:=Hd hl
 have hlb:bs.length≤140737480000000:=by omega
 have e0:=R0.out.cell HH.out.kind
 rw [hk] at e0
 have HC:=Hd (show bs++Lib.strCells ⟨#[110,117,108,108]⟩=bs++numL (canW (m+1) v) by rw [canW];unfold bodyT;rw [if_pos hk];rfl)
 clear hh hok hs hv hl hk
 go_enter Tryz.func57,Tryz.ntmps57
 go_wp2_with fail
 refine (wstring L b _ sl bs ⟨#[110,117,108,108]⟩ S1.out (by show bs.length+4≤_;omega)).mono ?_
 rintro e w2 ⟨rfl,s2,hs2,hf2⟩
 have H2:=Hd (HC.out ▸ hs2)
 have F2:=Hd hf2
 clear hs2 hf2
 go_wp2_with fail
 go_end0
 exact ⟨rfl,s2,H2.out,F1.out.trans F2.out⟩
set_option maxRecDepth 100000 in
set_option maxHeartbeats 6400000 in
theorem wri_1t {m:Nat} (L b N:Nat) (w:World) (sl:Value) (bs:List Value) (v:ValD) (cs:List Value) (_hN:N≤4294967296) (hok:okW (m+1) v) (hs:BldS L b w sl bs) (hv:HoldB L b N v cs w) (hl:bs.length+(canW (m+1) v).length≤140737480000000) (hk:v.kind=1) (hb:v.bool=true):Calls Tryz.prog 57 #[.pointer (some ⟨b,0,none⟩),.agg cs.toArray] w (BldR L b w sl (bs++numL (canW (m+1) v)) (.tuple #[])):=by
 obtain ⟨ya,la,va,yc,lc,vc,hh⟩:=hv.here.has
 have R0:=Hd (RowT.new w 39 cs)
 have S1:=Hd (hs.boxes (.cells cs.toArray 39))
 have F1:=Hd (@BldF.box b w sl (.cells cs.toArray 39))
 have V1:=Hd (hv.boxes (.cells cs.toArray 39))
 have HH:=Hd hh
 have HOK:=Hd hok
 have HLN:=Hd hl
 have hlb:bs.length≤140737480000000:=by omega
 have e0:=R0.out.cell HH.out.kind
 rw [hk] at e0
 have HC:=Hd (show bs++Lib.strCells ⟨#[116,114,117,101]⟩=bs++numL (canW (m+1) v) by rw [canW];unfold bodyT;rw [if_neg (by omega),if_pos hk,if_pos hb];rfl)
 have e1:=R0.out.cell HH.out.bool
 rw [show v.bool=true by exact hb] at e1
 clear hh hok hs hv hl hk hb
 go_enter Tryz.func57,Tryz.ntmps57
 go_wp2_with fail
 refine (wstring L b _ sl bs ⟨#[116,114,117,101]⟩ S1.out (by show bs.length+4≤_;omega)).mono ?_
 rintro e w2 ⟨rfl,s2,hs2,hf2⟩
 have H2:=Hd (HC.out ▸ hs2)
 have F2:=Hd hf2
 clear hs2 hf2
 go_wp2_with fail
 go_end0
 exact ⟨rfl,s2,H2.out,F1.out.trans F2.out⟩
set_option maxRecDepth 100000 in
set_option maxHeartbeats 6400000 in
theorem wri_1f {m:Nat} (L b N:Nat) (w:World) (sl:Value) (bs:List Value) (v:ValD) (cs:List Value) (_hN:N≤4294967296) (hok:okW (m+1) v) (hs:BldS L b w sl bs) (hv:HoldB L b N v cs w) (hl:bs.length+(canW (m+1) v).length≤140737480000000) (hk:v.kind=1) (hb:¬ v.bool=true):Calls Tryz.prog 57 #[.pointer (some ⟨b,0,none⟩),.agg cs.toArray] w (BldR L b w sl (bs++numL (canW (m+1) v)) (.tuple #[])):=by
 obtain ⟨ya,la,va,yc,lc,vc,hh⟩:=hv.here.has
 have R0:=Hd (RowT.new w 39 cs)
 have S1:=Hd (hs.boxes (.cells cs.toArray 39))
 have F1:=Hd (@BldF.box b w sl (.cells cs.toArray 39))
 have V1:=Hd (hv.boxes (.cells cs.toArray 39))
 have HH:=Hd hh
 have HOK:=Hd hok
 have HLN:=Hd hl
 have hlb:bs.length≤140737480000000:=by omega
 have e0:=R0.out.cell HH.out.kind
 rw [hk] at e0
 have HC:=Hd (show bs++Lib.strCells ⟨#[102,97,108,115,101]⟩=bs++numL (canW (m+1) v) by rw [canW];unfold bodyT;rw [if_neg (by omega),if_pos hk,if_neg hb];rfl)
 have e1:=R0.out.cell HH.out.bool
 rw [show v.bool=false by cases h:v.bool;rfl;exact absurd h hb] at e1
 clear hh hok hs hv hl hk hb
 go_enter Tryz.func57,Tryz.ntmps57
 go_wp2_with fail
 refine (wstring L b _ sl bs ⟨#[102,97,108,115,101]⟩ S1.out (by show bs.length+5≤_;omega)).mono ?_
 rintro e w2 ⟨rfl,s2,hs2,hf2⟩
 have H2:=Hd (HC.out ▸ hs2)
 have F2:=Hd hf2
 clear hs2 hf2
 go_wp2_with fail
 go_end0
 exact ⟨rfl,s2,H2.out,F1.out.trans F2.out⟩
set_option maxRecDepth 100000 in
set_option maxHeartbeats 6400000 in
theorem wri_2 {m:Nat} (L b N:Nat) (w:World) (sl:Value) (bs:List Value) (v:ValD) (cs:List Value) (_hN:N≤4294967296) (hok:okW (m+1) v) (hs:BldS L b w sl bs) (hv:HoldB L b N v cs w) (hl:bs.length+(canW (m+1) v).length≤140737480000000) (hk:v.kind=2):Calls Tryz.prog 57 #[.pointer (some ⟨b,0,none⟩),.agg cs.toArray] w (BldR L b w sl (bs++numL (canW (m+1) v)) (.tuple #[])):=by
 obtain ⟨ya,la,va,yc,lc,vc,hh⟩:=hv.here.has
 have R0:=Hd (RowT.new w 39 cs)
 have S1:=Hd (hs.boxes (.cells cs.toArray 39))
 have F1:=Hd (@BldF.box b w sl (.cells cs.toArray 39))
 have V1:=Hd (hv.boxes (.cells cs.toArray 39))
 have HH:=Hd hh
 have HOK:=Hd hok
 have HLN:=Hd hl
 have hlb:bs.length≤140737480000000:=by omega
 have e0:=R0.out.cell HH.out.kind
 rw [hk] at e0
 have hcan:canW (m+1) v=nums (numT v.num):=by rw [canW];unfold bodyT;rw [if_neg (by omega),if_neg (by omega),if_pos hk]
 have HC:=Hd (show bs++Lib.strCells (numT v.num)=bs++numL (canW (m+1) v) by rw [hcan,cells_nums])
 have hz:bs.length+(numT v.num).size≤140737480000000:=by rw [hcan,nums_length] at hl;exact hl
 have HT:=Hd (fun u=>dtextAny v.num hok.2.1 u)
 have e1:=R0.out.cell HH.out.neg
 have e2:=R0.out.cell HH.out.digits
 have e3:=R0.out.cell HH.out.exp
 obtain ⟨t,ht⟩:∃ t,numT v.num=t:=⟨_,rfl⟩
 rw [ht] at HC hz HT
 clear hh hok hs hv hl hk hcan ht
 go_enter Tryz.func57,Tryz.ntmps57
 go_wp2_with fail
 refine (HT.out _).mono ?_
 rintro e w3 ⟨rfl,hb3⟩
 have S3:=Hd (S1.out.later hb3)
 have F3:=Hd (F1.out.trans (BldF.later hb3))
 clear hb3
 go_wp2_with fail
 refine (wstring L b w3 sl bs t S3.out (by omega)).mono ?_
 rintro e w2 ⟨rfl,s2,hs2,hf2⟩
 have H2:=Hd (HC.out ▸ hs2)
 have F2:=Hd hf2
 clear hs2 hf2
 go_wp2_with fail
 go_end0
 exact ⟨rfl,s2,H2.out,F3.out.trans F2.out⟩
set_option maxRecDepth 100000 in
set_option maxHeartbeats 6400000 in
theorem wri_3 {m:Nat} (L b N:Nat) (w:World) (sl:Value) (bs:List Value) (v:ValD) (cs:List Value) (_hN:N≤4294967296) (hok:okW (m+1) v) (hs:BldS L b w sl bs) (hv:HoldB L b N v cs w) (hl:bs.length+(canW (m+1) v).length≤140737480000000) (hk:v.kind=3):Calls Tryz.prog 57 #[.pointer (some ⟨b,0,none⟩),.agg cs.toArray] w (BldR L b w sl (bs++numL (canW (m+1) v)) (.tuple #[])):=by
 obtain ⟨ya,la,va,yc,lc,vc,hh⟩:=hv.here.has
 have R0:=Hd (RowT.new w 39 cs)
 have S1:=Hd (hs.boxes (.cells cs.toArray 39))
 have F1:=Hd (@BldF.box b w sl (.cells cs.toArray 39))
 have V1:=Hd (hv.boxes (.cells cs.toArray 39))
 have HH:=Hd hh
 have HOK:=Hd hok
 have HLN:=Hd hl
 have hlb:bs.length≤140737480000000:=by omega
 have e0:=R0.out.cell HH.out.kind
 rw [hk] at e0
 have hcan:canW (m+1) v=[116,34]++nums (timeS v.time)++[34]:=by rw [canW];unfold bodyT;rw [if_neg (by omega),if_neg (by omega),if_neg (by omega),if_pos hk]
 have HC:=Hd (show bs++Lib.strCells (⟨#[116,34]⟩++timeS v.time++⟨#[34]⟩)=bs++numL (canW (m+1) v) by rw [hcan,cells_nums,nums_app,nums_app];rfl)
 have hz:=timeS_size v.time
 have HT:=Hd (fun u=>ttext_p v.time (hok.2.2.1 hk) u)
 have e1:=R0.out.cell HH.out.tkind
 have e2:=R0.out.cell HH.out.day
 have e3:=R0.out.cell HH.out.nano
 have e4:=R0.out.cell HH.out.offset
 have hl2:bs.length+43≤140737488355328:=by omega
 obtain ⟨t,ht⟩:∃ t,timeS v.time=t:=⟨_,rfl⟩
 rw [ht] at HC hz HT
 have q1:(⟨#[116,34]⟩:ByteArray).size+t.size≤9223372036854775807:=by show 2+t.size≤_;omega
 clear hh hok hs hv hl hk hcan ht
 go_enter Tryz.func57,Tryz.ntmps57
 go_wp2_with fail
 refine (HT.out _).mono ?_
 rintro e w3 ⟨rfl,hb3⟩
 have S3:=Hd (S1.out.later hb3)
 have F3:=Hd (F1.out.trans (BldF.later hb3))
 clear hb3
 go_wp2_with fail
 refine (wstring L b w3 sl bs _ S3.out (by simp only [ByteArray.size_append];show bs.length+(2+t.size+1)≤_;omega)).mono ?_
 rintro e w2 ⟨rfl,s2,hs2,hf2⟩
 have H2:=Hd (HC.out ▸ hs2)
 have F2:=Hd hf2
 clear hs2 hf2
 go_wp2_with fail
 go_end0
 exact ⟨rfl,s2,H2.out,F3.out.trans F2.out⟩
set_option maxRecDepth 100000 in
set_option maxHeartbeats 6400000 in
theorem wri_4 {m:Nat} (L b N:Nat) (w:World) (sl:Value) (bs:List Value) (v:ValD) (cs:List Value) (_hN:N≤4294967296) (hok:okW (m+1) v) (hs:BldS L b w sl bs) (hv:HoldB L b N v cs w) (hl:bs.length+(canW (m+1) v).length≤140737480000000) (hk:v.kind=4):Calls Tryz.prog 57 #[.pointer (some ⟨b,0,none⟩),.agg cs.toArray] w (BldR L b w sl (bs++numL (canW (m+1) v)) (.tuple #[])):=by
 obtain ⟨ya,la,va,yc,lc,vc,hh⟩:=hv.here.has
 have R0:=Hd (RowT.new w 39 cs)
 have S1:=Hd (hs.boxes (.cells cs.toArray 39))
 have F1:=Hd (@BldF.box b w sl (.cells cs.toArray 39))
 have V1:=Hd (hv.boxes (.cells cs.toArray 39))
 have HH:=Hd hh
 have HOK:=Hd hok
 have HLN:=Hd hl
 have hlb:bs.length≤140737480000000:=by omega
 have e0:=R0.out.cell HH.out.kind
 rw [hk] at e0
 have hcan:canW (m+1) v=quoI v.text:=by rw [canW];unfold bodyT;rw [if_neg (by omega),if_neg (by omega),if_neg (by omega),if_neg (by omega),if_pos hk]
 have HC:=Hd (show bs++numL (quoI v.text)=bs++numL (canW (m+1) v) by rw [hcan])
 have hz:v.text.size≤65536:=hok.2.2.2.1.1
 have e1:=R0.out.cell HH.out.text
 obtain ⟨t,ht⟩:∃ t,v.text=t:=⟨_,rfl⟩
 rw [ht] at HC hz e1
 clear hh hok hs hv hl hk hcan ht
 go_enter Tryz.func57,Tryz.ntmps57
 go_wp2_with fail
 refine (cquote_w L b _ sl bs t S1.out hz (by omega)).mono ?_
 rintro e w2 ⟨rfl,s2,hs2,hf2⟩
 have H2:=Hd (HC.out ▸ hs2)
 have F2:=Hd hf2
 clear hs2 hf2
 go_wp2_with fail
 go_end0
 exact ⟨rfl,s2,H2.out,F1.out.trans F2.out⟩
set_option maxRecDepth 100000 in
set_option maxHeartbeats 6400000 in
theorem wri_5 {m:Nat} (L b N:Nat) (w:World) (sl:Value) (bs:List Value) (v:ValD) (cs:List Value) (_hN:N≤4294967296) (hok:okW (m+1) v) (hs:BldS L b w sl bs) (hv:HoldB L b N v cs w) (hl:bs.length+(canW (m+1) v).length≤140737480000000) (hk:v.kind=5):Calls Tryz.prog 57 #[.pointer (some ⟨b,0,none⟩),.agg cs.toArray] w (BldR L b w sl (bs++numL (canW (m+1) v)) (.tuple #[])):=by
 obtain ⟨ya,la,va,yc,lc,vc,hh⟩:=hv.here.has
 have R0:=Hd (RowT.new w 39 cs)
 have S1:=Hd (hs.boxes (.cells cs.toArray 39))
 have F1:=Hd (@BldF.box b w sl (.cells cs.toArray 39))
 have V1:=Hd (hv.boxes (.cells cs.toArray 39))
 have HH:=Hd hh
 have HOK:=Hd hok
 have HLN:=Hd hl
 have hlb:bs.length≤140737480000000:=by omega
 have e0:=R0.out.cell HH.out.kind
 rw [hk] at e0
 have hcan:canW (m+1) v=[98,34]++b64S v.bytes++[34]:=by rw [canW];unfold bodyT;rw [if_neg (by omega),if_neg (by omega),if_neg (by omega),if_neg (by omega),if_neg (by omega),if_pos hk]
 have HC:=Hd (show bs++Lib.strCells (⟨#[98,34]⟩++strOfNums (b64S v.bytes)++⟨#[34]⟩)=bs++numL (canW (m+1) v) by rw [hcan,cells_nums,nums_app,nums_app,nums_strOf (b64S_range _)];rfl)
 have hz:(strOfNums (b64S v.bytes)).size≤90000:=by
  rw [strOfNums_size]
  unfold b64S
  rw [b64T_len]
  have:=hok.2.2.2.1.2
  omega
 obtain ⟨yb,yd,ey,hby⟩:=V1.out.bytes
 have e1:=R0.out.cell ey
 have hl2:bs.length+90003≤140737488355328:=by omega
 obtain ⟨n,hn⟩:∃ n,v.bytes.length=n:=⟨_,rfl⟩
 have hn6:n≤65536:=by rw [← hn];exact hok.2.2.2.1.2
 rw [hn] at e1
 have HT:=Hd (encode_p v.bytes n hn yb yd _ _ (Nat.le_refl _) hn6 hby)
 obtain ⟨t,ht⟩:∃ t,strOfNums (b64S v.bytes)=t:=⟨_,rfl⟩
 rw [ht] at HC hz HT
 have q1:(⟨#[98,34]⟩:ByteArray).size+t.size≤9223372036854775807:=by show 2+t.size≤_;omega
 clear hh hok hs hv hl hk hcan ht hby hn
 go_enter Tryz.func57,Tryz.ntmps57
 go_wp2_with fail
 refine HT.out.mono ?_
 rintro e w3 ⟨rfl,hb3⟩
 have S3:=Hd (S1.out.later hb3)
 have F3:=Hd (F1.out.trans (BldF.later hb3))
 clear hb3
 go_wp2_with fail
 refine (wstring L b w3 sl bs _ S3.out (by simp only [ByteArray.size_append];show bs.length+(2+t.size+1)≤_;omega)).mono ?_
 rintro e w2 ⟨rfl,s2,hs2,hf2⟩
 have H2:=Hd (HC.out ▸ hs2)
 have F2:=Hd hf2
 clear hs2 hf2
 go_wp2_with fail
 go_end0
 exact ⟨rfl,s2,H2.out,F3.out.trans F2.out⟩
end Go.Proofs.YtniljgkkcnekgaaGreatDoor

/- The bytes of canonical texts. No program here. -/
namespace Go.Proofs.YtniljgkkcnekgaaGreatDoor
open Go.RowKit Stb
theorem nums_range (s:ByteArray):∀ x∈nums s,0≤x∧x≤255:=by
 intro x hx
 obtain ⟨y,_,rfl⟩:=List.mem_map.1 hx
 have:=UInt8.toNat_lt y
 omega
theorem escL_range:∀ {l:List Int},(∀ x∈l,0≤x∧x≤255)→∀ x∈escL l,0≤x∧x≤255
 | [],_=>fun _ h=>by cases h
 | c::r,h=>by
   intro x hx
   rw [escL] at hx
   have hc:=h c (List.mem_cons_self ..)
   rcases List.mem_append.1 hx with hx | hx
   ·exact escB_range hc.1 hc.2 x hx
   ·exact escL_range (fun y hy=>h y (List.mem_cons_of_mem _ hy)) x hx
theorem quoI_range (s:ByteArray):∀ x∈quoI s,0≤x∧x≤255:=by
 intro x hx
 unfold quoI at hx
 rcases List.mem_cons.1 hx with rfl | hx
 ·decide
 rcases List.mem_append.1 hx with hx | hx
 ·exact escL_range (nums_range s) x hx
 ·rw [List.mem_singleton.1 hx];decide
theorem sepT_range {l:List (List Int)} (h:∀ p∈l,∀ x∈p,0≤x∧x≤255):∀ x∈sepT l,0≤x∧x≤255:=by
 intro x hx
 have hx2:=List.mem_of_mem_drop hx
 obtain ⟨p,hp,hxp⟩:=List.mem_flatMap.1 hx2
 rcases List.mem_cons.1 hxp with rfl | hxp
 ·decide
 ·exact h p hp x hxp
theorem canC_range:∀ (m:Nat) (v:ValD),∀ x∈canC m v,0≤x∧x≤255
 | 0,_=>fun _ h=>by cases h
 | m+1,v=>by
   have lit:∀ (l:List Int),(∀ x∈l,0≤x∧x≤255)→∀ x∈l,0≤x∧x≤255:=fun _ h=>h
   have app:∀ {a b:List Int},(∀ x∈a,0≤x∧x≤255)→(∀ x∈b,0≤x∧x≤255)→∀ x∈a++b,0≤x∧x≤255:=fun h k x hx=>(List.mem_append.1 hx).elim (h x) (k x)
   have con:∀ {c:Int} {b:List Int},0≤c∧c≤255→(∀ x∈b,0≤x∧x≤255)→∀ x∈c::b,0≤x∧x≤255:=fun h k x hx=>(List.mem_cons.1 hx).elim (fun e=>e ▸ h) (k x)
   rw [canC]
   split
   ·refine con (by decide) (app (sepT_range fun p hp=>?_) (lit _ (by decide)))
    obtain ⟨z,_,rfl⟩:=List.mem_map.1 hp
    exact app (quoI_range _) (con (by decide) (canC_range m z.2))
   ·unfold bodyT
    split
    ·exact lit _ (by decide)
    split
    ·split<;>exact lit _ (by decide)
    split
    ·exact nums_range _
    split
    ·exact app (app (lit _ (by decide)) (nums_range _)) (lit _ (by decide))
    split
    ·exact quoI_range _
    split
    ·exact app (app (lit _ (by decide)) (b64S_range _)) (lit _ (by decide))
    split
    ·refine con (by decide) (app (sepT_range fun p hp=>?_) (lit _ (by decide)))
     obtain ⟨z,_,rfl⟩:=List.mem_map.1 hp
     exact canC_range m z
    ·refine con (by decide) (app (sepT_range fun p hp=>?_) (lit _ (by decide)))
     obtain ⟨z,_,rfl⟩:=List.mem_map.1 hp
     exact app (quoI_range _) (con (by decide) (canC_range m z.2))
end Go.Proofs.YtniljgkkcnekgaaGreatDoor
