/- datakitref07.Same, in general. -/
import Derived.Test.YtmjfggadehkbjaaGreatDoorProg
import Derived.Test.YtmjfggadehkbjaaGreatDoorGA
import Derived.Test.YtmjfggadehkbjaaGreatDoorGB
import Derived.Test.YtmjfggadehkbjaaGreatDoorGC
import Derived.Test.YtmjfggadehkbjaaGreatDoorRow36
import Derived.Test.YtmjfggadehkbjaaGreatDoorXD
import Derived.Test.YtmjfggadehkbjaaGreatDoorXI
import Derived.Test.YtmjfggadehkbjaaGreatDoorAJ
import Derived.Test.YtmjfggadehkbjaaGreatDoorSam07
import Derived.Test.YtmjfggadehkbjaaGreatDoorArd09
namespace Go.Proofs.YtmjfggadehkbjaaGreatDoor
open Go.RowKit Stb
def SamR (m:Nat):Prop:=∀ (v u:ValD) (w:World) (B N:Nat) (cs ds:List Value),fitsV m v→N≤4294967296→B≤w.heap.size→ValD.At w B N v cs→ValD.At w B N u ds →
 Calls Tryz.prog 22 #[.agg cs.toArray,.agg ds.toArray] w (YnR (sameD m v u) w)
theorem Duo.drew {w W:World} {cs ds:List Value} (h:Duo w W cs ds):Duo w W.drew cs ds:=h.later (drewB W)
set_option maxRecDepth 100000 in
set_option maxHeartbeats 6400000 in
theorem smr_ok {m:Nat} (v u:ValD) (w:World) (B N:Nat) (cs ds:List Value) (IH:SamR m) (hf:fitsV (m+1) v) (hN:N≤4294967296) (hB:B≤w.heap.size) (hv:ValD.At w B N v cs) (hu:ValD.At w B N u ds) (b0:(v.kind==u.kind)=true) (b1:(v.bool==u.bool)=true) (b2:decB v.num u.num=true) (b3:timeB v.time u.time=true) (b4:(v.text.toList==u.text.toList)=true) (b5:(v.bytes==u.bytes)=true) (b6:(v.list.length==u.list.length)=true) (b7:(v.fields.length==u.fields.length)=true) :
 Calls Tryz.prog 22 #[.agg cs.toArray,.agg ds.toArray] w (YnR (all2 (sameD m) v.list u.list&&all2 (fldB (sameD m)) v.fields u.fields) w):=by
 have HI:=Hd IH
 have HF:=Hd hf
 obtain ⟨P,hP⟩:∃ P,P=sameD m:=⟨_,rfl⟩
 rw [← hP]
 have HP:=Hd hP
 have HL1:=Hd (show v.list.length=u.list.length by simpa using b6)
 have HL2:=Hd (show v.fields.length=u.fields.length by simpa using b7)
 have hll:v.list.length≤N:=by obtain ⟨_,_,_,_,_,_,h⟩:=hv.has;exact h.own.2.2.2.2.2.2.2.2.2.1
 have hfl:v.fields.length≤N:=by obtain ⟨_,_,_,_,_,_,h⟩:=hv.has;exact h.own.2.2.2.2.2.2.2.2.2.2
 obtain ⟨ya,la,va,yc,lc,vc,hh⟩:=hv.has
 obtain ⟨yb,lb,vb,yd,ld,vd,hg⟩:=hu.has
 have D0:=Hd (duo_boxes w cs ds 30)
 have ekind:=D0.out.one.get0 hh.kind
 have fkind:=D0.out.two.get0 hg.kind
 have ebool:=D0.out.one.get0 hh.bool
 have fbool:=D0.out.two.get0 hg.bool
 have eneg:=D0.out.one.get0 hh.neg
 have fneg:=D0.out.two.get0 hg.neg
 have edigits:=D0.out.one.get0 hh.digits
 have fdigits:=D0.out.two.get0 hg.digits
 have eexp:=D0.out.one.get0 hh.exp
 have fexp:=D0.out.two.get0 hg.exp
 have etkind:=D0.out.one.get0 hh.tkind
 have ftkind:=D0.out.two.get0 hg.tkind
 have eday:=D0.out.one.get0 hh.day
 have fday:=D0.out.two.get0 hg.day
 have enano:=D0.out.one.get0 hh.nano
 have fnano:=D0.out.two.get0 hg.nano
 have eoffset:=D0.out.one.get0 hh.offset
 have foffset:=D0.out.two.get0 hg.offset
 have etext:=D0.out.one.get0 hh.text
 have ftext:=D0.out.two.get0 hg.text
 have ebytes:=D0.out.one.get0 hh.bytes
 have fbytes:=D0.out.two.get0 hg.bytes
 have elist:=D0.out.one.get0 hh.list
 have flist:=D0.out.two.get0 hg.list
 have efields:=D0.out.one.get0 hh.fields
 have ffields:=D0.out.two.get0 hg.fields
 have HH:=Hd hh
 have HG:=Hd hg
 have z0:(v.kind != u.kind)=false:=by have:=b0;revert this;unfold bne;intro h;rw [h];rfl
 have E1:=eqDEC v.num u.num
 have E2:=eqTIME v.time u.time
 have G1:=guardDEC
 have G2:=guardTIME
 rw [b2] at E1
 rw [b3] at E2
 have Y1:=conv_bytes (hh.atBytes.below (D0.out.below.mono hB)) yc
 have Y2:=conv_bytes (hg.atBytes.below (D0.out.below.mono hB)) yd
 have y5:=bytes_str hh.atBytes.small hg.atBytes.small
 rw [b5] at y5
 have z6:((v.list.length:Int) != (u.list.length:Int))=false:=by have:=b6;simp at this;simp;omega
 have z7:((v.fields.length:Int) != (u.fields.length:Int))=false:=by have:=b7;simp at this;simp;omega
 clear hh hg hv hu IH hf hP b0 b2 b3 b5 b6 b7
 obtain ⟨p,hp⟩:∃ p,v.bool=p:=⟨_,rfl⟩
 obtain ⟨q,hq0⟩:∃ q,u.bool=q:=⟨_,rfl⟩
 rw [hp] at ebool b1
 rw [hq0] at fbool b1
 clear hp hq0
 have hpq:p=q:=by rcases bool_eq2 b1 with ⟨rfl,rfl⟩ | ⟨rfl,rfl⟩<;>rfl
 subst hpq
 clear b1
 have hbb:(p != p)=false:=by cases p<;>rfl
 have hbe:(p==p)=true:=by cases p<;>rfl
 go_enter Tryz.func22,Tryz.ntmps22
 go_wp2_with fail
 clear ekind fkind ebool fbool eneg fneg edigits fdigits eexp fexp etkind ftkind eday fday enano fnano eoffset foffset etext ftext ebytes fbytes elist flist efields ffields E1 E2 Y1 Y2 y5 z0 z6 z7 hbb hbe b4
 go_simp
 go_loopw [5] (fun i wr=>∃ (k:Nat),k≤v.list.length∧i=.int .i64 k∧Hid (Duo w wr cs ds)∧Hid (all2 P v.list u.list=all2 P (v.list.drop k) (u.list.drop k))) (fun i _=>v.list.length-(intOf i).toNat)
 case atStart=>exact ⟨0,by omega,rfl,D0,Hd rfl⟩
 case round =>
  clear D0
  obtain ⟨w1,rfl⟩:∃ w1,w1=wr:=⟨wr,rfl⟩
  obtain ⟨k,hk,rfl,D1,HE⟩:=hrel
  have c11:=D1.out.one.get0 HH.out.list
  have d11:=D1.out.two.get0 HG.out.list
  by_cases hlt:k<v.list.length
  ·have hlu:k<u.list.length:=by have:=HL1.out;omega
   obtain ⟨b1,o1,rfl,hb1,hget1⟩:=HH.out.atList.get (by intro h;simp [h] at hlt)
   obtain ⟨b2,o2,rfl,hb2,hget2⟩:=HG.out.atList.get (by intro h;simp [h] at hlu)
   obtain ⟨cs1,h1,h2⟩:=hget1 k hlt
   obtain ⟨ds1,h3,h4⟩:=hget2 k hlu
   have HV1:=Hd h2
   have HV2:=Hd h4
   have HC1:=Hd h1
   have HC2:=Hd h3
   have hl1:=Hd (show (Tryz.prog.info? 30).map (·.size)=some cs1.length by rw [h2.len];exact sizeV)
   have hl2:=Hd (show (Tryz.prog.info? 30).map (·.size)=some ds1.length by rw [h4.len];exact sizeV)
   have HFC:=Hd (HF.out.1 v.list[k] (List.getElem_mem hlt))
   have HD:=Hd (show all2 P v.list u.list=(P v.list[k] u.list[k]&&all2 P (v.list.drop (k+1)) (u.list.drop (k+1))) by rw [HE.out,all2_drop P hlt hlu])
   obtain ⟨s,hs⟩:∃ s,s=P v.list[k] u.list[k]:=⟨_,rfl⟩
   rw [← hs] at HD
   rw [HP.out] at hs
   have HS:=Hd hs
   clear h1 h2 h3 h4 hget1 hget2 hs
   go_wp2_with fail
   refine wp_region_held_drew (S:=fun q=>Duo w q cs ds) (by kernel_rfl) D1.out.drew (fun hHeld=>?_)
   refine wpAnyH_takeU (i:=0) (v:=.pointer (some ⟨w.heap.size,11,none⟩)) 74 rfl rfl (by kernel_rfl) (by kernel_rfl) (by kernel_rfl) (fun _ _ _ h=>h) (Or.inl ⟨by kernel_rfl,fun u hu=>by go_simp⟩) (by assumption) ?_
   simp only [sq1,sq0]
   refine wpAnyH_takeU (i:=1) (v:=.slice (some ⟨b1,o1,none⟩) v.list.length lc) 75 rfl rfl (by kernel_rfl) (by kernel_rfl) (by kernel_rfl) (fun _ _ _ h=>h) (Or.inl ⟨by kernel_rfl,fun u hu=>by have hc:=CellsAt.get0 hu.one HH.out.list;go_simp⟩) (by assumption) ?_
   simp only [sq1,sq0]
   refine wpAnyH_takeU (i:=2) (v:=.int .i64 k) 76 rfl rfl (by kernel_rfl) (by kernel_rfl) (by kernel_rfl) (fun _ _ _ h=>h) (Or.inl ⟨by kernel_rfl,fun u hu=>by go_simp⟩) (by assumption) ?_
   simp only [sq1,sq0]
   refine wpAnyH_takeU (i:=3) (v:=.pointer (some ⟨b1,o1+k * 13,none⟩)) 77 rfl rfl (by kernel_rfl) (by kernel_rfl) (by kernel_rfl) (fun _ _ _ h=>h) (Or.inl ⟨by kernel_rfl,fun u hu=>by go_simp⟩) (by assumption) ?_
   simp only [sq1,sq0]
   refine wpAnyH_takeU (i:=4) (v:=.agg cs1.toArray) 78 rfl rfl (by kernel_rfl) (by kernel_rfl) (by kernel_rfl) (fun _ _ _ h=>h) ?_ (by assumption) ?_
   ·exact yieldsIf_load_mid (by kernel_rfl) 30 _ rfl b1 (o1+k * 13) (by kernel_rfl) cs1 _ (fun u hu=>(HC1.out.below (hu.below.mono hB) hb1).range) Tryz.underlying30 rfl hl1.out
   simp only [sq1,sq0]
   refine wpAnyH_takeU (i:=5) (v:=.pointer (some ⟨w.heap.size+1,11,none⟩)) 79 rfl rfl (by kernel_rfl) (by kernel_rfl) (by kernel_rfl) (fun _ _ _ h=>h) (Or.inl ⟨by kernel_rfl,fun u hu=>by go_simp⟩) (by assumption) ?_
   simp only [sq1,sq0]
   refine wpAnyH_takeU (i:=6) (v:=.slice (some ⟨b2,o2,none⟩) u.list.length ld) 80 rfl rfl (by kernel_rfl) (by kernel_rfl) (by kernel_rfl) (fun _ _ _ h=>h) (Or.inl ⟨by kernel_rfl,fun u hu=>by have hc:=CellsAt.get0 hu.two HG.out.list;go_simp⟩) (by assumption) ?_
   simp only [sq1,sq0]
   refine wpAnyH_takeU (i:=7) (v:=.int .i64 k) 81 rfl rfl (by kernel_rfl) (by kernel_rfl) (by kernel_rfl) (fun _ _ _ h=>h) (Or.inl ⟨by kernel_rfl,fun u hu=>by go_simp⟩) (by assumption) ?_
   simp only [sq1,sq0]
   refine wpAnyH_takeU (i:=8) (v:=.pointer (some ⟨b2,o2+k * 13,none⟩)) 82 rfl rfl (by kernel_rfl) (by kernel_rfl) (by kernel_rfl) (fun _ _ _ h=>h) (Or.inl ⟨by kernel_rfl,fun u hu=>by go_simp⟩) (by assumption) ?_
   simp only [sq1,sq0]
   refine wpAnyH_takeU (i:=9) (v:=.agg ds1.toArray) 83 rfl rfl (by kernel_rfl) (by kernel_rfl) (by kernel_rfl) (fun _ _ _ h=>h) ?_ (by assumption) ?_
   ·exact yieldsIf_load_mid (by kernel_rfl) 30 _ rfl b2 (o2+k * 13) (by kernel_rfl) ds1 _ (fun u hu=>(HC2.out.below (hu.below.mono hB) hb2).range) Tryz.underlying30 rfl hl2.out
   simp only [sq1,sq0]
   refine rd1 10 rfl (fun K hK=>?_)
   go_simp
   refine (HI.out _ _ _ B N cs1 ds1 HFC.out hN (Nat.le_trans hB hHeld.below.size) (HV1.out.below (hHeld.below.mono hB)) (HV2.out.below (hHeld.below.mono hB))).mono ?_
   rintro e w2 ⟨rfl,hb⟩
   rw [← HS.out]
   refine hK.out _ _ (hHeld.later hb) (fun hHeld1=>?_)
   clear hK K hb hHeld
   refine rd1 11 rfl (fun K hK=>?_)
   go_simp
   refine hK.out _ _ hHeld1 (fun hHeld2=>?_)
   clear hK K hHeld2
   refine wpAnyH_done (by kernel_rfl) ?_ _
   have D2:=Hd hHeld1
   clear hHeld1
   cases s with
   | true =>
     go_wp2_with fail
     go_roundw
     case rel=>exact ⟨k+1,by omega,by go_num,D2,Hd (by rw [HD.out];rfl)⟩
     case measure=>simp [intOf];omega
   | false =>
     have HR:=Hd (show (all2 P v.list u.list&&all2 (fldB P) v.fields u.fields)=false by rw [HD.out];rfl)
     go_wp2_with fail
     go_ret
     exact yn_ret HR.out D2.out.below
  ·have HR1:=Hd (show all2 P v.list u.list=true by rw [HE.out];exact all2_end P (k:=k) (by omega) (by have:=HL1.out;omega))
   go_wp2_with fail
   go_simp
   clear c11 d11 HE
   go_loopw [6] (fun i wr=>∃ (k:Nat),k≤v.fields.length∧i=.int .i64 k∧Hid (Duo w wr cs ds)∧Hid (all2 (fldB P) v.fields u.fields=all2 (fldB P) (v.fields.drop k) (u.fields.drop k))) (fun i _=>v.fields.length-(intOf i).toNat)
   case atStart=>exact ⟨0,by omega,rfl,D1,Hd rfl⟩
   case round =>
    clear D1 hlt hk
    obtain ⟨w0,hw0⟩:∃ w0,w0=w1:=⟨_,rfl⟩
    clear hw0
    obtain ⟨w1,rfl⟩:∃ w1,w1=wr:=⟨wr,rfl⟩
    obtain ⟨k,hk,rfl,D1,HE⟩:=hrel
    have c12:=D1.out.one.get0 HH.out.fields
    have d12:=D1.out.two.get0 HG.out.fields
    by_cases hlt:k<v.fields.length
    case neg =>
     have HR:=Hd (show (all2 P v.list u.list&&all2 (fldB P) v.fields u.fields)=true by rw [HR1.out,HE.out,all2_end (fldB P) (k:=k) (by omega) (by have:=HL2.out;omega)];rfl)
     go_wp2_with fail
     go_ret
     exact yn_ret HR.out D1.out.below
    have hlu:k<u.fields.length:=by have:=HL2.out;omega
    obtain ⟨b1,o1,rfl,hb1,hget1⟩:=HH.out.atFields.get (by intro h;simp [h] at hlt)
    obtain ⟨b2,o2,rfl,hb2,hget2⟩:=HG.out.atFields.get (by intro h;simp [h] at hlu)
    obtain ⟨cs1,_,h1,h2⟩:=hget1 k hlt
    obtain ⟨ds1,_,h3,h4⟩:=hget2 k hlu
    obtain ⟨ky,hky⟩:∃ ky,ky=v.fields[k].1:=⟨_,rfl⟩
    obtain ⟨kz,hkz⟩:∃ kz,kz=u.fields[k].1:=⟨_,rfl⟩
    rw [← hky] at h1
    rw [← hkz] at h3
    obtain ⟨t,ht⟩:∃ t,(ky.toList==kz.toList)=t:=⟨_,rfl⟩
    have HD:=Hd (show all2 (fldB P) v.fields u.fields=((t&&P v.fields[k].2 u.fields[k].2)&&all2 (fldB P) (v.fields.drop (k+1)) (u.fields.drop (k+1))) by rw [HE.out,all2_drop (fldB P) hlt hlu];unfold fldB;rw [← hky,← hkz,ht])
    obtain ⟨s,hs⟩:∃ s,s=P v.fields[k].2 u.fields[k].2:=⟨_,rfl⟩
    rw [← hs] at HD
    rw [HP.out] at hs
    have HS:=Hd hs
    clear hky hkz hs
    have HV1:=Hd h2
    have HV2:=Hd h4
    have HC1:=Hd h1
    have HC2:=Hd h3
    have hl1:=Hd (show (Tryz.prog.info? 30).map (·.size)=some cs1.length by rw [h2.len];exact sizeV)
    have hl2:=Hd (show (Tryz.prog.info? 30).map (·.size)=some ds1.length by rw [h4.len];exact sizeV)
    have HFC:=Hd (HF.out.2 v.fields[k] (List.getElem_mem hlt))
    clear h1 h2 h3 h4 hget1 hget2
    cases t with
    | false =>
      have hkk:(ky.toList != kz.toList)=true:=by unfold bne;rw [ht];rfl
      go_wp2_with fail
      refine wp_region_held_drew (S:=fun q=>Duo w q cs ds) (by kernel_rfl) D1.out.drew (fun hHeld=>?_)
      refine wpAnyH_takeU (i:=0) (v:=.pointer (some ⟨w.heap.size,12,none⟩)) 93 rfl rfl (by kernel_rfl) (by kernel_rfl) (by kernel_rfl) (fun _ _ _ h=>h) (Or.inl ⟨by kernel_rfl,fun u hu=>by go_simp⟩) (by assumption) ?_
      simp only [sq1,sq0]
      refine wpAnyH_takeU (i:=1) (v:=.slice (some ⟨b1,o1,none⟩) v.fields.length vc) 94 rfl rfl (by kernel_rfl) (by kernel_rfl) (by kernel_rfl) (fun _ _ _ h=>h) (Or.inl ⟨by kernel_rfl,fun u hu=>by have hc:=CellsAt.get0 hu.one HH.out.fields;go_simp⟩) (by assumption) ?_
      simp only [sq1,sq0]
      refine wpAnyH_takeU (i:=2) (v:=.int .i64 k) 95 rfl rfl (by kernel_rfl) (by kernel_rfl) (by kernel_rfl) (fun _ _ _ h=>h) (Or.inl ⟨by kernel_rfl,fun u hu=>by go_simp⟩) (by assumption) ?_
      simp only [sq1,sq0]
      refine wpAnyH_takeU (i:=3) (v:=.pointer (some ⟨b1,o1+k * 14,none⟩)) 96 rfl rfl (by kernel_rfl) (by kernel_rfl) (by kernel_rfl) (fun _ _ _ h=>h) (Or.inl ⟨by kernel_rfl,fun u hu=>by go_simp⟩) (by assumption) ?_
      simp only [sq1,sq0]
      refine wpAnyH_takeU (i:=4) (v:=.pointer (some ⟨b1,o1+k * 14,none⟩)) 97 rfl rfl (by kernel_rfl) (by kernel_rfl) (by kernel_rfl) (fun _ _ _ h=>h) (Or.inl ⟨by kernel_rfl,fun u hu=>by go_simp⟩) (by assumption) ?_
      simp only [sq1,sq0]
      refine wpAnyH_takeU (i:=5) (v:=.string ky) 98 rfl rfl (by kernel_rfl) (by kernel_rfl) (by kernel_rfl) (fun _ _ _ h=>h) (Or.inl ⟨by kernel_rfl,fun u hu=>by have hc:=(HC1.out.below (hu.below.mono hB) hb1).get0' (v:=.string ky) rfl;go_simp⟩) (by assumption) ?_
      simp only [sq1,sq0]
      refine wpAnyH_takeU (i:=6) (v:=.pointer (some ⟨w.heap.size+1,12,none⟩)) 99 rfl rfl (by kernel_rfl) (by kernel_rfl) (by kernel_rfl) (fun _ _ _ h=>h) (Or.inl ⟨by kernel_rfl,fun u hu=>by go_simp⟩) (by assumption) ?_
      simp only [sq1,sq0]
      refine wpAnyH_takeU (i:=7) (v:=.slice (some ⟨b2,o2,none⟩) u.fields.length vd) 100 rfl rfl (by kernel_rfl) (by kernel_rfl) (by kernel_rfl) (fun _ _ _ h=>h) (Or.inl ⟨by kernel_rfl,fun u hu=>by have hc:=CellsAt.get0 hu.two HG.out.fields;go_simp⟩) (by assumption) ?_
      simp only [sq1,sq0]
      refine wpAnyH_takeU (i:=8) (v:=.int .i64 k) 101 rfl rfl (by kernel_rfl) (by kernel_rfl) (by kernel_rfl) (fun _ _ _ h=>h) (Or.inl ⟨by kernel_rfl,fun u hu=>by go_simp⟩) (by assumption) ?_
      simp only [sq1,sq0]
      refine wpAnyH_takeU (i:=9) (v:=.pointer (some ⟨b2,o2+k * 14,none⟩)) 102 rfl rfl (by kernel_rfl) (by kernel_rfl) (by kernel_rfl) (fun _ _ _ h=>h) (Or.inl ⟨by kernel_rfl,fun u hu=>by go_simp⟩) (by assumption) ?_
      simp only [sq1,sq0]
      refine wpAnyH_takeU (i:=10) (v:=.pointer (some ⟨b2,o2+k * 14,none⟩)) 103 rfl rfl (by kernel_rfl) (by kernel_rfl) (by kernel_rfl) (fun _ _ _ h=>h) (Or.inl ⟨by kernel_rfl,fun u hu=>by go_simp⟩) (by assumption) ?_
      simp only [sq1,sq0]
      refine wpAnyH_takeU (i:=11) (v:=.string kz) 104 rfl rfl (by kernel_rfl) (by kernel_rfl) (by kernel_rfl) (fun _ _ _ h=>h) (Or.inl ⟨by kernel_rfl,fun u hu=>by have hc:=(HC2.out.below (hu.below.mono hB) hb2).get0' (v:=.string kz) rfl;go_simp⟩) (by assumption) ?_
      simp only [sq1,sq0]
      refine wpAnyH_takeU (i:=12) (v:=.bool true) 105 rfl rfl (by kernel_rfl) (by kernel_rfl) (by kernel_rfl) (fun _ _ _ h=>h) (Or.inl ⟨by kernel_rfl,fun u hu=>by go_simp⟩) (by assumption) ?_
      simp only [sq1,sq0]
      refine wpAnyH_takeU (i:=13) (v:=.bool true) 106 rfl rfl (by kernel_rfl) (by kernel_rfl) (by kernel_rfl) (fun _ _ _ h=>h) (Or.inl ⟨by kernel_rfl,fun u hu=>by go_simp⟩) (by assumption) ?_
      simp only [sq1,sq0]
      refine wpAnyH_takeU (i:=14) (v:=undef) 107 rfl rfl (by kernel_rfl) (by kernel_rfl) (by kernel_rfl) (fun _ _ _ h=>h) (Or.inr ⟨by kernel_rfl,rfl⟩) (by assumption) ?_
      simp only [sq1,sq0]
      refine wpAnyH_takeU (i:=15) (v:=undef) 108 rfl rfl (by kernel_rfl) (by kernel_rfl) (by kernel_rfl) (fun _ _ _ h=>h) (Or.inr ⟨by kernel_rfl,rfl⟩) (by assumption) ?_
      simp only [sq1,sq0]
      refine wpAnyH_takeU (i:=16) (v:=undef) 109 rfl rfl (by kernel_rfl) (by kernel_rfl) (by kernel_rfl) (fun _ _ _ h=>h) (Or.inr ⟨by kernel_rfl,rfl⟩) (by assumption) ?_
      simp only [sq1,sq0]
      refine wpAnyH_takeU (i:=17) (v:=undef) 110 rfl rfl (by kernel_rfl) (by kernel_rfl) (by kernel_rfl) (fun _ _ _ h=>h) (Or.inr ⟨by kernel_rfl,rfl⟩) (by assumption) ?_
      simp only [sq1,sq0]
      refine wpAnyH_takeU (i:=18) (v:=undef) 111 rfl rfl (by kernel_rfl) (by kernel_rfl) (by kernel_rfl) (fun _ _ _ h=>h) (Or.inr ⟨by kernel_rfl,rfl⟩) (by assumption) ?_
      simp only [sq1,sq0]
      refine wpAnyH_takeU (i:=19) (v:=undef) 112 rfl rfl (by kernel_rfl) (by kernel_rfl) (by kernel_rfl) (fun _ _ _ h=>h) (Or.inr ⟨by kernel_rfl,rfl⟩) (by assumption) ?_
      simp only [sq1,sq0]
      refine wpAnyH_takeU (i:=20) (v:=undef) 113 rfl rfl (by kernel_rfl) (by kernel_rfl) (by kernel_rfl) (fun _ _ _ h=>h) (Or.inr ⟨by kernel_rfl,rfl⟩) (by assumption) ?_
      simp only [sq1,sq0]
      refine wpAnyH_takeU (i:=21) (v:=undef) 114 rfl rfl (by kernel_rfl) (by kernel_rfl) (by kernel_rfl) (fun _ _ _ h=>h) (Or.inr ⟨by kernel_rfl,rfl⟩) (by assumption) ?_
      simp only [sq1,sq0]
      refine wpAnyH_takeU (i:=22) (v:=undef) 115 rfl rfl (by kernel_rfl) (by kernel_rfl) (by kernel_rfl) (fun _ _ _ h=>h) (Or.inr ⟨by kernel_rfl,rfl⟩) (by assumption) ?_
      simp only [sq1,sq0]
      refine wpAnyH_takeU (i:=23) (v:=undef) 116 rfl rfl (by kernel_rfl) (by kernel_rfl) (by kernel_rfl) (fun _ _ _ h=>h) (Or.inr ⟨by kernel_rfl,rfl⟩) (by assumption) ?_
      simp only [sq1,sq0]
      refine wpAnyH_takeU (i:=24) (v:=undef) 117 rfl rfl (by kernel_rfl) (by kernel_rfl) (by kernel_rfl) (fun _ _ _ h=>h) (Or.inr ⟨by kernel_rfl,rfl⟩) (by assumption) ?_
      simp only [sq1,sq0]
      refine wpAnyH_takeU (i:=25) (v:=undef) 118 rfl rfl (by kernel_rfl) (by kernel_rfl) (by kernel_rfl) (fun _ _ _ h=>h) (Or.inr ⟨by kernel_rfl,rfl⟩) (by assumption) ?_
      simp only [sq1,sq0]
      refine wpAnyH_takeU (i:=26) (v:=undef) 119 rfl rfl (by kernel_rfl) (by kernel_rfl) (by kernel_rfl) (fun _ _ _ h=>h) (Or.inr ⟨by kernel_rfl,rfl⟩) (by assumption) ?_
      simp only [sq1,sq0]
      refine wpAnyH_takeU (i:=27) (v:=undef) 120 rfl rfl (by kernel_rfl) (by kernel_rfl) (by kernel_rfl) (fun _ _ _ h=>h) (Or.inr ⟨by kernel_rfl,rfl⟩) (by assumption) ?_
      simp only [sq1,sq0]
      refine wpAnyH_takeU (i:=28) (v:=.bool true) 121 rfl rfl (by kernel_rfl) (by kernel_rfl) (by kernel_rfl) (fun _ _ _ h=>h) (Or.inl ⟨by kernel_rfl,fun u hu=>by go_simp⟩) (by assumption) ?_
      simp only [sq1,sq0]
      refine wpAnyH_done (by kernel_rfl) ?_ _
      have D2:=Hd hHeld
      clear hHeld
      have HR:=Hd (show (all2 P v.list u.list&&all2 (fldB P) v.fields u.fields)=false by rw [HD.out,HR1.out,Bool.false_and,Bool.false_and,Bool.and_false])
      clear ht hkk HC1 HC2 HV1 HV2 c12 d12 HD HE HFC HS
      go_simp
      go_wp2_with fail
      go_ret
      exact yn_ret HR.out D2.out.below
    | true =>
      have hkk:(ky.toList != kz.toList)=false:=by unfold bne;rw [ht];rfl
      go_wp2_with fail
      refine wp_region_held_drew (S:=fun q=>Duo w q cs ds) (by kernel_rfl) D1.out.drew (fun hHeld=>?_)
      refine wpAnyH_takeU (i:=0) (v:=.pointer (some ⟨w.heap.size,12,none⟩)) 93 rfl rfl (by kernel_rfl) (by kernel_rfl) (by kernel_rfl) (fun _ _ _ h=>h) (Or.inl ⟨by kernel_rfl,fun u hu=>by go_simp⟩) (by assumption) ?_
      simp only [sq1,sq0]
      refine wpAnyH_takeU (i:=1) (v:=.slice (some ⟨b1,o1,none⟩) v.fields.length vc) 94 rfl rfl (by kernel_rfl) (by kernel_rfl) (by kernel_rfl) (fun _ _ _ h=>h) (Or.inl ⟨by kernel_rfl,fun u hu=>by have hc:=CellsAt.get0 hu.one HH.out.fields;go_simp⟩) (by assumption) ?_
      simp only [sq1,sq0]
      refine wpAnyH_takeU (i:=2) (v:=.int .i64 k) 95 rfl rfl (by kernel_rfl) (by kernel_rfl) (by kernel_rfl) (fun _ _ _ h=>h) (Or.inl ⟨by kernel_rfl,fun u hu=>by go_simp⟩) (by assumption) ?_
      simp only [sq1,sq0]
      refine wpAnyH_takeU (i:=3) (v:=.pointer (some ⟨b1,o1+k * 14,none⟩)) 96 rfl rfl (by kernel_rfl) (by kernel_rfl) (by kernel_rfl) (fun _ _ _ h=>h) (Or.inl ⟨by kernel_rfl,fun u hu=>by go_simp⟩) (by assumption) ?_
      simp only [sq1,sq0]
      refine wpAnyH_takeU (i:=4) (v:=.pointer (some ⟨b1,o1+k * 14,none⟩)) 97 rfl rfl (by kernel_rfl) (by kernel_rfl) (by kernel_rfl) (fun _ _ _ h=>h) (Or.inl ⟨by kernel_rfl,fun u hu=>by go_simp⟩) (by assumption) ?_
      simp only [sq1,sq0]
      refine wpAnyH_takeU (i:=5) (v:=.string ky) 98 rfl rfl (by kernel_rfl) (by kernel_rfl) (by kernel_rfl) (fun _ _ _ h=>h) (Or.inl ⟨by kernel_rfl,fun u hu=>by have hc:=(HC1.out.below (hu.below.mono hB) hb1).get0' (v:=.string ky) rfl;go_simp⟩) (by assumption) ?_
      simp only [sq1,sq0]
      refine wpAnyH_takeU (i:=6) (v:=.pointer (some ⟨w.heap.size+1,12,none⟩)) 99 rfl rfl (by kernel_rfl) (by kernel_rfl) (by kernel_rfl) (fun _ _ _ h=>h) (Or.inl ⟨by kernel_rfl,fun u hu=>by go_simp⟩) (by assumption) ?_
      simp only [sq1,sq0]
      refine wpAnyH_takeU (i:=7) (v:=.slice (some ⟨b2,o2,none⟩) u.fields.length vd) 100 rfl rfl (by kernel_rfl) (by kernel_rfl) (by kernel_rfl) (fun _ _ _ h=>h) (Or.inl ⟨by kernel_rfl,fun u hu=>by have hc:=CellsAt.get0 hu.two HG.out.fields;go_simp⟩) (by assumption) ?_
      simp only [sq1,sq0]
      refine wpAnyH_takeU (i:=8) (v:=.int .i64 k) 101 rfl rfl (by kernel_rfl) (by kernel_rfl) (by kernel_rfl) (fun _ _ _ h=>h) (Or.inl ⟨by kernel_rfl,fun u hu=>by go_simp⟩) (by assumption) ?_
      simp only [sq1,sq0]
      refine wpAnyH_takeU (i:=9) (v:=.pointer (some ⟨b2,o2+k * 14,none⟩)) 102 rfl rfl (by kernel_rfl) (by kernel_rfl) (by kernel_rfl) (fun _ _ _ h=>h) (Or.inl ⟨by kernel_rfl,fun u hu=>by go_simp⟩) (by assumption) ?_
      simp only [sq1,sq0]
      refine wpAnyH_takeU (i:=10) (v:=.pointer (some ⟨b2,o2+k * 14,none⟩)) 103 rfl rfl (by kernel_rfl) (by kernel_rfl) (by kernel_rfl) (fun _ _ _ h=>h) (Or.inl ⟨by kernel_rfl,fun u hu=>by go_simp⟩) (by assumption) ?_
      simp only [sq1,sq0]
      refine wpAnyH_takeU (i:=11) (v:=.string kz) 104 rfl rfl (by kernel_rfl) (by kernel_rfl) (by kernel_rfl) (fun _ _ _ h=>h) (Or.inl ⟨by kernel_rfl,fun u hu=>by have hc:=(HC2.out.below (hu.below.mono hB) hb2).get0' (v:=.string kz) rfl;go_simp⟩) (by assumption) ?_
      simp only [sq1,sq0]
      refine wpAnyH_takeU (i:=12) (v:=.bool false) 105 rfl rfl (by kernel_rfl) (by kernel_rfl) (by kernel_rfl) (fun _ _ _ h=>h) (Or.inl ⟨by kernel_rfl,fun u hu=>by go_simp⟩) (by assumption) ?_
      simp only [sq1,sq0]
      refine wpAnyH_takeU (i:=13) (v:=.bool false) 106 rfl rfl (by kernel_rfl) (by kernel_rfl) (by kernel_rfl) (fun _ _ _ h=>h) (Or.inl ⟨by kernel_rfl,fun u hu=>by go_simp⟩) (by assumption) ?_
      simp only [sq1,sq0]
      refine wpAnyH_takeU (i:=14) (v:=.pointer (some ⟨w.heap.size,12,none⟩)) 107 rfl rfl (by kernel_rfl) (by kernel_rfl) (by kernel_rfl) (fun _ _ _ h=>h) (Or.inl ⟨by kernel_rfl,fun u hu=>by go_simp⟩) (by assumption) ?_
      simp only [sq1,sq0]
      refine wpAnyH_takeU (i:=15) (v:=.slice (some ⟨b1,o1,none⟩) v.fields.length vc) 108 rfl rfl (by kernel_rfl) (by kernel_rfl) (by kernel_rfl) (fun _ _ _ h=>h) (Or.inl ⟨by kernel_rfl,fun u hu=>by have hc:=CellsAt.get0 hu.one HH.out.fields;go_simp⟩) (by assumption) ?_
      simp only [sq1,sq0]
      refine wpAnyH_takeU (i:=16) (v:=.int .i64 k) 109 rfl rfl (by kernel_rfl) (by kernel_rfl) (by kernel_rfl) (fun _ _ _ h=>h) (Or.inl ⟨by kernel_rfl,fun u hu=>by go_simp⟩) (by assumption) ?_
      simp only [sq1,sq0]
      refine wpAnyH_takeU (i:=17) (v:=.pointer (some ⟨b1,o1+k * 14,none⟩)) 110 rfl rfl (by kernel_rfl) (by kernel_rfl) (by kernel_rfl) (fun _ _ _ h=>h) (Or.inl ⟨by kernel_rfl,fun u hu=>by go_simp⟩) (by assumption) ?_
      simp only [sq1,sq0]
      refine wpAnyH_takeU (i:=18) (v:=.pointer (some ⟨b1,o1+k * 14+1,none⟩)) 111 rfl rfl (by kernel_rfl) (by kernel_rfl) (by kernel_rfl) (fun _ _ _ h=>h) (Or.inl ⟨by kernel_rfl,fun u hu=>by go_simp⟩) (by assumption) ?_
      simp only [sq1,sq0]
      refine wpAnyH_takeU (i:=19) (v:=.agg cs1.toArray) 112 rfl rfl (by kernel_rfl) (by kernel_rfl) (by kernel_rfl) (fun _ _ _ h=>h) ?_ (by assumption) ?_
      ·exact yieldsIf_load_mid (by kernel_rfl) 30 _ rfl b1 (o1+k * 14+1) (by kernel_rfl) cs1 _ (fun u hu=>(HC1.out.tail.below (hu.below.mono hB) hb1).range) Tryz.underlying30 rfl hl1.out
      simp only [sq1,sq0]
      refine wpAnyH_takeU (i:=20) (v:=.pointer (some ⟨w.heap.size+1,12,none⟩)) 113 rfl rfl (by kernel_rfl) (by kernel_rfl) (by kernel_rfl) (fun _ _ _ h=>h) (Or.inl ⟨by kernel_rfl,fun u hu=>by go_simp⟩) (by assumption) ?_
      simp only [sq1,sq0]
      refine wpAnyH_takeU (i:=21) (v:=.slice (some ⟨b2,o2,none⟩) u.fields.length vd) 114 rfl rfl (by kernel_rfl) (by kernel_rfl) (by kernel_rfl) (fun _ _ _ h=>h) (Or.inl ⟨by kernel_rfl,fun u hu=>by have hc:=CellsAt.get0 hu.two HG.out.fields;go_simp⟩) (by assumption) ?_
      simp only [sq1,sq0]
      refine wpAnyH_takeU (i:=22) (v:=.int .i64 k) 115 rfl rfl (by kernel_rfl) (by kernel_rfl) (by kernel_rfl) (fun _ _ _ h=>h) (Or.inl ⟨by kernel_rfl,fun u hu=>by go_simp⟩) (by assumption) ?_
      simp only [sq1,sq0]
      refine wpAnyH_takeU (i:=23) (v:=.pointer (some ⟨b2,o2+k * 14,none⟩)) 116 rfl rfl (by kernel_rfl) (by kernel_rfl) (by kernel_rfl) (fun _ _ _ h=>h) (Or.inl ⟨by kernel_rfl,fun u hu=>by go_simp⟩) (by assumption) ?_
      simp only [sq1,sq0]
      refine wpAnyH_takeU (i:=24) (v:=.pointer (some ⟨b2,o2+k * 14+1,none⟩)) 117 rfl rfl (by kernel_rfl) (by kernel_rfl) (by kernel_rfl) (fun _ _ _ h=>h) (Or.inl ⟨by kernel_rfl,fun u hu=>by go_simp⟩) (by assumption) ?_
      simp only [sq1,sq0]
      refine wpAnyH_takeU (i:=25) (v:=.agg ds1.toArray) 118 rfl rfl (by kernel_rfl) (by kernel_rfl) (by kernel_rfl) (fun _ _ _ h=>h) ?_ (by assumption) ?_
      ·exact yieldsIf_load_mid (by kernel_rfl) 30 _ rfl b2 (o2+k * 14+1) (by kernel_rfl) ds1 _ (fun u hu=>(HC2.out.tail.below (hu.below.mono hB) hb2).range) Tryz.underlying30 rfl hl2.out
      simp only [sq1,sq0]
      refine rd1 26 rfl (fun K hK=>?_)
      go_simp
      refine (HI.out _ _ _ B N cs1 ds1 HFC.out hN (Nat.le_trans hB hHeld.below.size) (HV1.out.below (hHeld.below.mono hB)) (HV2.out.below (hHeld.below.mono hB))).mono ?_
      rintro e w2 ⟨rfl,hb⟩
      rw [← HS.out]
      refine hK.out _ _ (hHeld.later hb) (fun hHeld1=>?_)
      clear hK K hb hHeld
      refine rd1 27 rfl (fun K hK=>?_)
      go_simp
      refine hK.out _ _ hHeld1 (fun hHeld2=>?_)
      clear hK K hHeld2
      refine rd1 28 rfl (fun K hK=>?_)
      go_simp
      refine hK.out _ _ hHeld1 (fun hHeld2=>?_)
      clear hK K hHeld2
      refine wpAnyH_done (by kernel_rfl) ?_ _
      have D2:=Hd hHeld1
      clear hHeld1
      cases s with
      | true =>
        go_wp2_with fail
        go_roundw
        case rel=>exact ⟨k+1,by omega,by go_num,D2,Hd (by rw [HD.out];rfl)⟩
        case measure=>simp [intOf];omega
      | false =>
        have HR:=Hd (show (all2 P v.list u.list&&all2 (fldB P) v.fields u.fields)=false by rw [HD.out,HR1.out];rfl)
        go_wp2_with fail
        go_ret
        exact yn_ret HR.out D2.out.below
theorem smr_all:∀ m,SamR m
 | 0=>fun v u w B N cs ds hf=>hf.elim
 | m+1=>fun v u w B N cs ds hf hN hB hv hu=>by
   unfold sameD headB
   cases b0:(v.kind==u.kind) with
   | false=>exact smr_no0 v u w B N cs ds hB hv hu b0
   | true =>
   cases b1:(v.bool==u.bool) with
   | false=>exact smr_no1 v u w B N cs ds hB hv hu b0 b1
   | true =>
   cases b2:decB v.num u.num with
   | false=>exact smr_no2 v u w B N cs ds hB hv hu b0 b1 b2
   | true =>
   cases b3:timeB v.time u.time with
   | false=>exact smr_no3 v u w B N cs ds hB hv hu b0 b1 b2 b3
   | true =>
   cases b4:(v.text.toList==u.text.toList) with
   | false=>exact smr_no4 v u w B N cs ds hB hv hu b0 b1 b2 b3 b4
   | true =>
   cases b5:(v.bytes==u.bytes) with
   | false=>exact smr_no5 v u w B N cs ds hB hv hu b0 b1 b2 b3 b4 b5
   | true =>
   show Calls _ _ _ _ (YnR (all2 (sameD m) v.list u.list&&all2 (fldB (sameD m)) v.fields u.fields) w)
   cases b6:(v.list.length==u.list.length) with
   | false =>
     rw [all2_len (p:=sameD m) (by simpa using b6)]
     exact smr_no6 v u w B N cs ds hB hv hu b0 b1 b2 b3 b4 b5 b6
   | true =>
   cases b7:(v.fields.length==u.fields.length) with
   | false =>
     rw [all2_len (p:=fldB (sameD m)) (by simpa using b7),Bool.and_false]
     exact smr_no7 v u w B N cs ds hB hv hu b0 b1 b2 b3 b4 b5 b6 b7
   | true=>exact smr_ok v u w B N cs ds (smr_all m) hf hN hB hv hu b0 b1 b2 b3 b4 b5 b6 b7
end Go.Proofs.YtmjfggadehkbjaaGreatDoor
