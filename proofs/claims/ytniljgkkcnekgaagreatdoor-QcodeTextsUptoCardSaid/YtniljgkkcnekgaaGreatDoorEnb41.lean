/- Base64 of both sides: base.Encode, datakitref06.Encode. -/
import Derived.Test.YtniljgkkcnekgaaGreatDoorProg
import Derived.Test.YtniljgkkcnekgaaGreatDoorGA
import Derived.Test.YtniljgkkcnekgaaGreatDoorGD
import Derived.Test.YtniljgkkcnekgaaGreatDoorGC
import Derived.Test.YtniljgkkcnekgaaGreatDoorGZ
namespace Go.Proofs.YtniljgkkcnekgaaGreatDoor
open Go.RowKit
def lettersB:ByteArray:=⟨#[65,66,67,68,69,70,71,72,73,74,75,76,77,78,79,80,81,82,83,84,85,86,87,88,89,90,97,98,99,100,101,102,103,104,105,106,107,108,109,110,111,112,113,114,115,116,117,118,119,120,121,122,48,49,50,51,52,53,54,55,56,57,43,47]⟩
theorem letters_at:∀ d,d<64→∀ hh:d<lettersB.size,(((lettersB[d]'hh).toNat:Int))=b64D d:=by decide +kernel
def wkN (l:List Int) (i:Nat):Nat→Nat
 | 0=>0
 | k+1=>wkN l i k * 256+byN l (i+k)
theorem wkN_3 (l:List Int) (j:Nat):wkN l (3 * j) 3=wordN l j:=by
 unfold wordN
 simp only [wkN,Nat.add_zero]
 omega
theorem bytesK {w:World} {B:Nat} {l:List Int} {a:Option Addr} (h:BytesAt w B l a) (hn:l≠[]):∃ b o,a=some ⟨b,o,none⟩∧∀ k,k<l.length→w.cell? ⟨b,o+k,none⟩=some (.int .u8 (byN l k)):=by
 rcases h with h | ⟨b,o,rfl,_,hc,hr⟩
 ·exact absurd h hn
 ·refine ⟨b,o,rfl,fun k hk=>?_⟩
  have h1:=hc k (by rw [List.length_map];exact hk)
  have h2:=hr l[k] (List.getElem_mem hk)
  rw [h1,List.getElem?_map,List.getElem?_eq_getElem hk]
  unfold byN
  rw [List.getD_eq_getElem?_getD,List.getElem?_eq_getElem hk,Option.getD_some,Option.map_some,Int.toNat_of_nonneg h2.1]
theorem bytes_range {w:World} {B:Nat} {l:List Int} {a:Option Addr} (h:BytesAt w B l a):∀ x∈l,0≤x∧x≤255:=by
 rcases h with h | ⟨b,o,_,_,_,hr⟩
 ·rw [h];intro x hx;cases hx
 ·exact hr
theorem chr_dig {l:List Int} {j k:Nat} (hk:k<4) (h:k≤min 3 (l.length-3 * j)) (hj:3 * j<l.length):chrN l (4 * j+k)=b64D (wordN l j / 2 ^ (18-6 * k) % 64):=by
 unfold chrN cntN dg6N
 rw [if_pos (by omega),show (4 * j+k) / 4=j by omega,show (4 * j+k) % 4=k by omega]
theorem chr_pad {l:List Int} {j k:Nat} (hk:k<4) (h:min 3 (l.length-3 * j)<k) (hj:3 * j<l.length):chrN l (4 * j+k)=61:=by
 unfold chrN cntN
 rw [if_neg (by omega)]
theorem own_b64 {w:World} {B n:Nat} {v:Value} {l:List Int} {t:Nat} {c:Int} (h:w.ownsRow B 5 1 v n ((b64T l t).map (Value.int .u8)++[.int .u8 c])) (hn:n=t+1) (hc:chrN l t=c):w.ownsRow B 5 1 v (t+1) ((b64T l (t+1)).map (Value.int .u8)):=by
 rw [b64T_s,List.map_append,hc]
 subst hn
 exact h
set_option maxRecDepth 100000 in
set_option maxHeartbeats 12800000 in
theorem encode_p (l:List Int) (L:Nat) (hL:l.length=L) (ya:Option Addr) (yc B:Nat) (w:World) (hB:B≤w.heap.size) (hl:L≤65536) (hy:BytesAt w B l ya):Calls Tryz.prog 90 #[.slice ya L yc,.bool true] w (StrB (strOfNums (b64S l)) w):=by
 obtain ⟨i0,hin,hz0,hz1,hz2⟩:=info_parts infoU8
 have HL:=Hd hL
 have HY:=Hd hy
 have HR:=Hd (bytes_range hy)
 have HBB:=Hd hB
 clear hL hy hB
 go_enter Tryz.func90,Tryz.ntmps90
 go_wp2_with fail
 go_simp
 go_loopw [5,6] (fun v iv wr=>∃ i j:Nat,iv=.int .i64 i∧Hid (i=3 * j)∧j≤(L+2) / 3∧i≤65538∧Hid (wr.ownsRow w.heap.size 5 1 v (4 * j) ((b64T l (4 * j)).map (Value.int .u8)))∧Hid (Below w.heap.size w wr)) (fun _ iv _=>L-(intOf iv).toNat)
 case atStart=>exact ⟨0,0,rfl,Hd rfl,by omega,by omega,Hd (World.ownsRow_nil _ _ _ _),Hd (Below.refl _ _)⟩
 case round =>
  obtain ⟨w1,rfl⟩:∃ w1,w1=wr:=⟨wr,rfl⟩
  obtain ⟨i,j,rfl,HI,hj,hi8,HO,HBW⟩:=hrel
  by_cases hlt:i<L
  case neg =>
   have hje:4 * j=4 * ((L+2) / 3):=by have:=HI.out;omega
   have HJ:=Hd (show b64S l=b64T l (4 * j) by unfold b64S;rw [HL.out,hje])
   have hconv:=conv_owned HO.out (b64T_len _ _).symm
   clear hje
   go_wp2_with fail
   go_ret
   exact ⟨by rw [HJ.out];rfl,HBW.out⟩
  obtain ⟨n,hn⟩:∃ n,min 3 (L-i)=n:=⟨_,rfl⟩
  have hn1:min (3:Int) ((L:Int)-(i:Int))=(n:Int):=by omega
  have hn3:1≤n∧n≤3:=by omega
  have HNN:=Hd hn
  have hni:i+n≤L:=by omega
  obtain ⟨b,o,rfl,hcell⟩:=bytesK HY.out (by intro h;have:=HL.out;rw [h] at this;simp at this;omega)
  clear hcell hn
  go_wp2_with fail
  go_simp
  go_loopw [8,22] (fun x kv wr=>∃ k y:Nat,k≤3∧kv=.int .i64 k∧x=.int .i64 y∧y<256 ^ k∧y≤16777215∧Hid (y=wkN l i k)∧wr=w1) (fun _ kv _=>3-(intOf kv).toNat)
  case atStart=>exact ⟨0,0,by omega,rfl,rfl,by decide,by omega,Hd rfl,rfl⟩
  case round =>
   obtain ⟨k,y,hk,rfl,rfl,hy8,hy9,HYK,rfl⟩:=hrel
   by_cases hk3:k<3
   ·have hy7:y≤65535:=by
     rcases (show k=0∨k=1∨k=2 by omega) with rfl | rfl | rfl<;>omega
    have hyp:∀ x,x<256→y * 256+x<256 ^ (k+1)∧y * 256+x≤16777215:=fun x hx=>by rw [Nat.pow_succ];omega
    have HYP:=Hd hyp
    clear hyp hy8
    by_cases hkn:k<n
    ·obtain ⟨p,hp⟩:∃ p,i+k=p:=⟨_,rfl⟩
     have hp1:(i:Int)+(k:Int)=(p:Int):=by omega
     have hpL:p<L:=by omega
     obtain ⟨x,hx⟩:∃ x,byN l p=x:=⟨_,rfl⟩
     obtain ⟨b2,o2,hbe,hcell⟩:=bytesK (HY.out.below (HBW.out.mono HBB.out)) (by intro h;have:=HL.out;rw [h] at this;simp at this;omega)
     cases hbe
     have hc:=hcell p (by rw [HL.out];exact hpL)
     rw [hx] at hc
     have hx8:x<256:=by rw [← hx];exact byN_lt HR.out p
     have hor:=bw_or8 y x (by omega) hx8
     obtain ⟨z,hz⟩:∃ z,y * 256+x=z:=⟨_,rfl⟩
     rw [hz] at hor
     have HZ:=Hd (show z=wkN l i (k+1) by rw [← hz,HYK.out,← hx,← hp];rfl)
     have HZ2:=Hd (show z<256 ^ (k+1)∧z≤16777215 by rw [← hz];exact HYP.out x hx8)
     clear hcell hx hp hz
     go_wp2_with fail
     go_roundw
     case rel=>exact ⟨k+1,z,by omega,by go_num,rfl,HZ2.out.1,HZ2.out.2,HZ,trivial⟩
     case measure=>simp [intOf];omega
    ·obtain ⟨z,hz⟩:∃ z,y * 256+0=z:=⟨_,rfl⟩
     have hz1:(y:Int) * 256=(z:Int):=by omega
     have HZ:=Hd (show z=wkN l i (k+1) by
      rw [← hz,HYK.out]
      show _=wkN l i k * 256+byN l (i+k)
      have:byN l (i+k)=0:=by
       unfold byN
       rw [List.getD_eq_getElem?_getD,List.getElem?_eq_none (by have:=HL.out;have:=HNN.out;omega)]
       rfl
      rw [this])
     have HZ2:=Hd (show z<256 ^ (k+1)∧z≤16777215 by rw [← hz];exact HYP.out 0 (by omega))
     clear hz
     go_wp2_with fail
     go_roundw
     case rel=>exact ⟨k+1,z,by omega,by go_num,rfl,HZ2.out.1,HZ2.out.2,HZ,trivial⟩
     case measure=>simp [intOf];omega
   obtain rfl:k=3:=by omega
   have HW:=Hd (show y=wordN l j by rw [HYK.out,HI.out,wkN_3])
   clear hy8 HYK hk hk3
   go_wp2_with fail
   go_simp
   go_loopw [5,40] (fun v kv wr=>∃ k:Nat,k≤4∧kv=.int .i64 k∧Hid (wr.ownsRow w.heap.size 5 1 v (4 * j+k) ((b64T l (4 * j+k)).map (Value.int .u8)))∧Hid (Below w.heap.size w wr)) (fun _ kv _=>4-(intOf kv).toNat)
   case atStart=>exact ⟨0,by omega,rfl,HO,HBW⟩
   case round =>
    clear HO HBW
    obtain ⟨w2,rfl⟩:∃ w2,w2=wr:=⟨wr,rfl⟩
    obtain ⟨k,hk,rfl,HO,HBW⟩:=hrel
    by_cases hk4:k<4
    ·obtain ⟨c,hc⟩:∃ c,chrN l (4 * j+k)=c:=⟨_,rfl⟩
     have HC:=Hd hc
     clear hc
     by_cases hkn:k≤n
     ·obtain ⟨s,hs⟩:∃ s,18-6 * k=s:=⟨_,rfl⟩
      have hs1:(18:Int)-6 * (k:Int)=(s:Int):=by omega
      have hs18:s≤18:=by omega
      obtain ⟨q,hq⟩:∃ q,y / 2 ^ s=q:=⟨_,rfl⟩
      have hq1:(y:Int) / 2 ^ s=(q:Int):=by rw [← hq];push_cast;rfl
      have hq9:q≤16777215:=by rw [← hq];exact Nat.le_trans (Nat.div_le_self _ _) hy9
      obtain ⟨d,hd⟩:∃ d,q % 64=d:=⟨_,rfl⟩
      have hd64:d<64:=by omega
      have hand:=bw_and63 q (by omega)
      rw [hd] at hand
      have hlet:=letters_at d hd64
      have HCD:=Hd (show b64D d=c by
       rw [← HC.out,chr_dig hk4 (by rw [HL.out,← HI.out];have:=HNN.out;omega) (by rw [HL.out,← HI.out];exact hlt),← HW.out,hs,hq,hd])
      rw [HCD.out] at hlet
      unfold lettersB at hlet
      clear hs hq hd
      go_wp2_with (first
       | (at_builtin;refine wpList_append_own _ rfl _ _ 35 rfl w.heap.size 5 i0 (.int .u8 0) 1 1 Tryz.underlying35 hin hz0 hz1 hz2 rfl (by decide) _ _ _ rfl (HO.out.alloc _) ⟨w2.heap.size,0,none⟩ 1 1 [.int .u8 c] rfl rfl (cell_one_new _ _ _) (fun x hx=>by simp at hx;rcases hx with rfl<;>rfl) (by unfold maxLen;omega) (by omega) (by simp only [World.size_alloc];have:=HBW.out.size;omega) ?_
          intro v' w3 hown' hgrow3 _
          have HB3:=Hd (show Below w.heap.size w w3 from Below.grown (HBW.out.alloc HBW.out.size _) hgrow3 (by simp only [World.size_alloc];have:=HBW.out.size;omega) (fun j hj=>by have:=(HO.out.lt _ hj).1;omega))
          have HO3:=Hd (own_b64 hown' rfl HC.out)
          clear hown' hgrow3))
      go_roundw
      case rel=>exact ⟨k+1,by omega,by go_num,HO3,HB3⟩
      case measure=>simp [intOf];omega
     ·obtain rfl:c=61:=by rw [← HC.out,chr_pad hk4 (by rw [HL.out,← HI.out];have:=HNN.out;omega) (by rw [HL.out,← HI.out];exact hlt)]
      go_wp2_with (first
       | (at_builtin;refine wpList_append_own _ rfl _ _ 35 rfl w.heap.size 5 i0 (.int .u8 0) 1 1 Tryz.underlying35 hin hz0 hz1 hz2 rfl (by decide) _ _ _ rfl (HO.out.alloc _) ⟨w2.heap.size,0,none⟩ 1 1 [.int .u8 61] rfl rfl (cell_one_new _ _ _) (fun x hx=>by simp at hx;rcases hx with rfl<;>rfl) (by unfold maxLen;omega) (by omega) (by simp only [World.size_alloc];have:=HBW.out.size;omega) ?_
          intro v' w3 hown' hgrow3 _
          have HB3:=Hd (show Below w.heap.size w w3 from Below.grown (HBW.out.alloc HBW.out.size _) hgrow3 (by simp only [World.size_alloc];have:=HBW.out.size;omega) (fun j hj=>by have:=(HO.out.lt _ hj).1;omega))
          have HO3:=Hd (own_b64 hown' rfl HC.out)
          clear hown' hgrow3))
      go_roundw
      case rel=>exact ⟨k+1,by omega,by go_num,HO3,HB3⟩
      case measure=>simp [intOf];omega
    ·obtain rfl:k=4:=by omega
     go_wp2_with fail
     go_roundw
     case rel=>exact ⟨i+3,j+1,by go_num,Hd (by have:=HI.out;omega),by have:=HI.out;omega,by omega,HO,HBW⟩
     case measure=>simp [intOf];omega
def BitR (n:Nat) (w:World) (e:Ending) (w':World):Prop:=e=.returned (.int .i64 n)∧w'=w
set_option maxRecDepth 100000 in
set_option maxHeartbeats 3200000 in
theorem bit_r (l:List Int) (L:Nat) (hL:l.length=L) (ya:Option Addr) (yc B:Nat) (w:World) (hl:L≤65536) (hy:BytesAt w B l ya) (ki:Int) (k:Nat) (hki:ki=k) (hk:k≤600000):Calls Tryz.prog 67 #[.slice ya L yc,.int .i64 ki] w (BitR (bitN l k) w):=by
 subst hki
 obtain ⟨q,hq⟩:∃ q,k / 8=q:=⟨_,rfl⟩
 obtain ⟨r,hr⟩:∃ r,k % 8=r:=⟨_,rfl⟩
 have t1:(k:Int).tdiv 8=(q:Int):=by rw [Int.tdiv_eq_ediv_of_nonneg (by omega)];omega
 have t2:(k:Int) / 8=(q:Int):=by omega
 have t3:(k:Int).tmod 8=(r:Int):=by rw [Int.tmod_eq_emod_of_nonneg (by omega)];omega
 have t4:(k:Int) % 8=(r:Int):=by omega
 have HB:=Hd (show bitN l k=byN l q / 2 ^ (7-r) % 2 by unfold bitN;rw [hq,hr])
 by_cases hlt:q<L
 ·obtain ⟨s,hs⟩:∃ s,7-r=s:=⟨_,rfl⟩
  have hs1:(7:Int)-(r:Int)=(s:Int):=by omega
  have hs7:s≤7:=by omega
  obtain ⟨b,o,rfl,hcell⟩:=bytesK hy (by intro h;rw [h] at hL;simp at hL;omega)
  have hc:=hcell q (by omega)
  have hx8:=byN_lt (bytes_range hy) q
  obtain ⟨x,hx⟩:∃ x,byN l q=x:=⟨_,rfl⟩
  rw [hx] at hc hx8
  obtain ⟨y,hy2⟩:∃ y,x / 2 ^ s=y:=⟨_,rfl⟩
  have hy3:(x:Int) / 2 ^ s=(y:Int):=by rw [← hy2];push_cast;rfl
  have hy4:y≤255:=by rw [← hy2];exact Nat.le_trans (Nat.div_le_self _ _) (by omega)
  have hand:=bw_and1 y (by omega)
  have HR:=Hd (show bitN l k=y % 2 by rw [HB.out,hx,hs,hy2])
  clear hcell hL hy hq hr hs hx hy2
  go_enter Tryz.func67,Tryz.ntmps67
  go_wp2_with fail
  go_ret
  exact ⟨by rw [HR.out];rfl,rfl⟩
 ·have HR:=Hd (show bitN l k=0 by
   rw [HB.out]
   unfold byN
   rw [List.getD_eq_getElem?_getD,List.getElem?_eq_none (by omega)]
   show 0 / 2 ^ (7-r) % 2=0
   rw [Nat.zero_div])
  clear hL hy hq hr
  go_enter Tryz.func67,Tryz.ntmps67
  go_wp2_with fail
  go_ret
  exact ⟨by rw [HR.out];rfl,rfl⟩
def lenSl:Value→Nat | .slice _ n _=>n | _=>0
set_option maxRecDepth 100000 in
set_option maxHeartbeats 12800000 in
theorem encode_r (l:List Int) (L:Nat) (hL:l.length=L) (ya:Option Addr) (yc B:Nat) (w:World) (hB:B≤w.heap.size) (hl:L≤65536) (hy:BytesAt w B l ya):Calls Tryz.prog 39 #[.slice ya L yc,.bool true] w (StrB (strOfNums (b64S l)) w):=by
 obtain ⟨i0,hin,hz0,hz1,hz2⟩:=info_parts infoU8
 have HL:=Hd hL
 have HY:=Hd hy
 have HR:=Hd (bytes_range hy)
 have HBB:=Hd hB
 obtain ⟨cn,hcn⟩:∃ cn,(8 * L+5) / 6=cn:=⟨_,rfl⟩
 have HCN:=Hd hcn
 have hcn9:cn≤90000:=by omega
 clear hL hy hB hcn
 go_enter Tryz.func39,Tryz.ntmps39
 go_wp2_with fail
 go_simp
 go_loopw [5,6] (fun v iv wr=>∃ (i m:Nat),iv=.int .i64 i∧Hid (i=6 * m)∧m≤cn∧i≤600000∧Hid (wr.ownsRow w.heap.size 5 1 v m ((b64T l m).map (Value.int .u8)))∧Hid (Below w.heap.size w wr)) (fun _ iv _=>8 * L-(intOf iv).toNat)
 case atStart=>exact ⟨0,0,rfl,Hd rfl,by omega,by omega,Hd (World.ownsRow_nil _ _ _ _),Hd (Below.refl _ _)⟩
 case round =>
  obtain ⟨w1,rfl⟩:∃ w1,w1=wr:=⟨wr,rfl⟩
  obtain ⟨i,m,rfl,HI,hm,hi8,HO,HBW⟩:=hrel
  by_cases hlt:i<8 * L
  case neg =>
   have hme:m=cn:=by have:=HI.out;have:=HCN.out;omega
   subst hme
   obtain ⟨a,c,rfl⟩:=own_slice HO.out
   go_wp2_with fail
   go_simp
   go_loopw [5] (fun v wr=>∃ (t:Nat) (a:Option Addr) (c:Nat),v=.slice a t c∧m≤t∧t≤4 * ((L+2) / 3)∧Hid (wr.ownsRow w.heap.size 5 1 (.slice a t c) t ((b64T l t).map (Value.int .u8)))∧Hid (Below w.heap.size w wr)) (fun v _=>4 * ((L+2) / 3)-lenSl v)
   case atStart=>exact ⟨m,a,c,rfl,Nat.le_refl _,by have:=HCN.out;omega,HO,HBW⟩
   case round =>
    clear HO HBW
    obtain ⟨w2,rfl⟩:∃ w2,w2=wr:=⟨wr,rfl⟩
    obtain ⟨t,a,c,rfl,ht1,ht2,HO,HBW⟩:=hrel
    obtain ⟨r,hr⟩:∃ r,t % 4=r:=⟨_,rfl⟩
    have t3:(t:Int).tmod 4=(r:Int):=by rw [Int.tmod_eq_emod_of_nonneg (by omega)];omega
    have t4:(t:Int) % 4=(r:Int):=by omega
    by_cases hr0:r=0
    ·have hje:t=4 * ((L+2) / 3):=by have:=HCN.out;omega
     have HJ:=Hd (show b64S l=b64T l t by unfold b64S;rw [HL.out,← hje])
     have hconv:=conv_owned HO.out (b64T_len _ _).symm
     subst hr0
     clear hje hr
     go_wp2_with fail
     go_ret
     exact ⟨by rw [HJ.out];rfl,HBW.out⟩
    ·have hr1:((r:Int) != 0)=true:=by simpa using hr0
     have HC:=Hd (show chrN l t=61 by unfold chrN cntN;rw [HL.out,HCN.out,if_neg (by omega)])
     have hlt3:t+1≤4 * ((L+2) / 3):=by omega
     have ht9:t≤90000:=by omega
     have HM:=Hd (show ∀ v',lenSl v'=t+1→4 * ((L+2) / 3)-lenSl v'<4 * ((L+2) / 3)-t from fun v' h=>by rw [h];omega)
     clear hr0 hr
     go_wp2_with (first
      | (at_builtin;refine wpList_append_own _ rfl _ _ 35 rfl w.heap.size 5 i0 (.int .u8 0) 1 1 Tryz.underlying35 hin hz0 hz1 hz2 rfl (by decide) _ _ _ rfl (HO.out.alloc _) ⟨w2.heap.size,0,none⟩ 1 1 [.int .u8 61] rfl rfl (cell_one_new _ _ _) (fun x hx=>by simp at hx;rcases hx with rfl<;>rfl) (by unfold maxLen;omega) (by omega) (by simp only [World.size_alloc];have:=HBW.out.size;omega) ?_
         intro v' w3 hown' hgrow3 _
         have HB3:=Hd (show Below w.heap.size w w3 from Below.grown (HBW.out.alloc HBW.out.size _) hgrow3 (by simp only [World.size_alloc];have:=HBW.out.size;omega) (fun j hj=>by have:=(HO.out.lt _ hj).1;omega))
         have HO3:=Hd (own_b64 hown' rfl HC.out)
         obtain ⟨a3,c3,rfl⟩:=own_slice hown'
         clear hown' hgrow3))
     go_roundw
     case rel=>exact ⟨t+1,a3,c3,rfl,by omega,hlt3,HO3,HB3⟩
     case measure=>exact HM.out _ rfl
  have hin6:i+6≤600000:=by omega
  go_wp2_with fail
  go_simp
  go_loopw [7,8] (fun nv kv wr=>∃ q x k:Nat,q≤6∧kv=.int .i64 k∧k≤i+6∧nv=.int .i64 x∧x<64∧Hid (k=i+q)∧Hid (x=sixN l m q)∧w1=wr) (fun _ kv _=>i+6-(intOf kv).toNat)
  case atStart=>exact ⟨0,0,i,by omega,rfl,by omega,rfl,by omega,Hd rfl,Hd rfl,rfl⟩
  case round =>
   obtain ⟨q,x,k,hq,rfl,hk6,rfl,hx6,HK,HX,rfl⟩:=hrel
   by_cases hq6:k<i+6
   ·have hq7:q<6:=by have:=HK.out;omega
    have hx5:x<32:=by
     have h1:=sixN_lt l m q
     rw [HX.out]
     have:2 ^ q≤2 ^ 5:=Nat.pow_le_pow_right (by decide) (by omega)
     omega
    obtain ⟨y,hy⟩:∃ y,bitN l k=y:=⟨_,rfl⟩
    have hy2:y<2:=by rw [← hy];exact bitN_lt l k
    have HYB:=Hd (hy ▸ bit_r l L HL.out ya yc B w1 hl (HY.out.below (HBW.out.mono HBB.out)) k k rfl (by omega))
    have hor:=bw_or1 x y (by omega) hy2
    obtain ⟨z,hz⟩:∃ z,x * 2+y=z:=⟨_,rfl⟩
    rw [hz] at hor
    have HZ:=Hd (show z=sixN l m (q+1) by rw [← hz,HX.out,← hy,HK.out,HI.out];rfl)
    have hz6:z<64:=by omega
    clear hy hz
    go_wp2_with (go_at_call 67;refine HYB.out.mono ?_;rintro e w' ⟨rfl,rfl⟩)
    go_roundw
    case rel=>exact ⟨q+1,z,k+1,by omega,by go_num,by omega,rfl,hz6,Hd (by have:=HK.out;omega),HZ,trivial⟩
    case measure=>simp [intOf];omega
   obtain rfl:q=6:=by have:=HK.out;omega
   have HW:=Hd (show x=dg6N l m by rw [HX.out,six_dig HR.out])
   obtain ⟨c,hc⟩:∃ c,b64D x=c:=⟨_,rfl⟩
   have hlet:=letters_at x hx6
   rw [hc] at hlet
   unfold lettersB at hlet
   have HC:=Hd (show chrN l m=c by unfold chrN cntN;rw [HL.out,if_pos (by have:=HI.out;omega),← HW.out,hc])
   have hm9:m+1≤cn:=by have:=HI.out;have:=HCN.out;omega
   clear hc
   go_wp2_with (first
    | (at_builtin;refine wpList_append_own _ rfl _ _ 35 rfl w.heap.size 5 i0 (.int .u8 0) 1 1 Tryz.underlying35 hin hz0 hz1 hz2 rfl (by decide) _ _ _ rfl (HO.out.alloc _) ⟨w1.heap.size,0,none⟩ 1 1 [.int .u8 c] rfl rfl (cell_one_new _ _ _) (fun x hx=>by simp at hx;rcases hx with rfl<;>rfl) (by unfold maxLen;omega) (by omega) (by simp only [World.size_alloc];have:=HBW.out.size;omega) ?_
       intro v' w3 hown' hgrow3 _
       have HB3:=Hd (show Below w.heap.size w w3 from Below.grown (HBW.out.alloc HBW.out.size _) hgrow3 (by simp only [World.size_alloc];have:=HBW.out.size;omega) (fun j hj=>by have:=(HO.out.lt _ hj).1;omega))
       have HO3:=Hd (own_b64 hown' rfl HC.out)
       clear hown' hgrow3))
   go_roundw
   case rel=>exact ⟨i+6,m+1,by go_num,Hd (by have:=HI.out;omega),hm9,by omega,HO3,HB3⟩
   case measure=>simp [intOf];omega
end Go.Proofs.YtniljgkkcnekgaaGreatDoor
