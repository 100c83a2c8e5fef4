/- qlex.bad of a valid string: nothing is bad. -/
import Derived.Test.YtiefeajappjnbaaGreatDoorGA
import Derived.Test.YtiefeajappjnbaaGreatDoorHC
import Derived.Test.YtiefeajappjnbaaGreatDoorGJ
import Derived.Test.YtiefeajappjnbaaGreatDoorShelf
import Derived.Test.YtiefeajappjnbaaGreatDoorMB
import Derived.Test.YtiefeajappjnbaaGreatDoorGD
import Derived.Deep.RegionLaw
namespace Go.Proofs.YtiefeajappjnbaaGreatDoor
open Go.RowKit
theorem okFrom_true {s:ByteArray} {p:Nat} (hp:p<s.size) (h:okFrom s (s.size-p) p=true):charAt s p≠0∧okFrom s (s.size-(p+charAt s p)) (p+charAt s p)=true:=by
 by_cases hc:charAt s p=0
 ·rw [okFrom_bad s p hp hc] at h;cases h
 ·exact ⟨hc,by rw [← okFrom_step s p _ hp rfl hc];exact h⟩
theorem decodeGo_char {s:ByteArray} {p:Nat} (hp:p<s.size) (h:charAt s p≠0):(Lib.decodeGo (s.extract p s.size)).2=charAt s p∧((Lib.decodeGo (s.extract p s.size)).2=1→(Lib.decodeGo (s.extract p s.size)).1≠65533)∧p+charAt s p≤s.size:=by
 have e:Lib.decodeGo (s.extract p s.size)=Utf8.decode s p:=by
  unfold Lib.decodeGo
  rw [if_neg (by rw [ByteArray.size_extract];omega),Lib.tail_decode]
  rfl
 rw [e]
 exact ⟨charAt_decode h,fun h1 h2=>decode_good h ⟨h2,h1⟩,(charAt_parts h).2.1⟩
set_option maxRecDepth 100000 in
set_option maxHeartbeats 800000 in
theorem bad_p (s:ByteArray) (w:World) (hs:s.size≤1099511627776) (hT:Lib.Utf8Tabs 0 1 w) (hv:validS s=true) :
 Calls Tryz.prog 195 #[.string s] w fun e w'=>e=.returned (.int .i64 (-1))∧Below w.heap.size w w':=by
 have HT:=Hd hT
 have HV:=Hd (show okFrom s (s.size-0) 0=true from hv)
 clear hT hv
 go_enter Tryz.func195,Tryz.ntmps195
 go_wp2_with fail
 go_simp
 go_loopw [3] (fun t wr=>∃ p:Nat,t=.int .i64 p∧p≤s.size∧Hid (okFrom s (s.size-p) p=true)∧Below w.heap.size w wr) (fun t _=>s.size-(intOf t).toNat)
 case atStart=>exact ⟨0,rfl,by omega,HV,Below.refl _ _⟩
 case round =>
  obtain ⟨w1,rfl⟩:∃ w1,w1=wr:=⟨wr,rfl⟩
  obtain ⟨p,rfl,hp,hk,hbel⟩:=hrel
  have HB:=Hd hbel
  clear hbel
  by_cases hlt:p<s.size
  ·obtain ⟨hc,hk2⟩:=okFrom_true hlt hk.out
   obtain ⟨hw1,hw2,hw3⟩:=decodeGo_char hlt hc
   have HK2:=Hd hk2
   have HW2:=Hd hw2
   have HW1:=Hd hw1
   clear hk2 hk hw2 hw1
   go_wp2_with fail
   refine (Tryz.utf8_DecodeRuneInString _ w1 (utf_below HT.out HB.out)).mono ?_
   rintro e w2 ⟨rfl,hb2⟩
   have HB2:=Hd (belowThen HB.out hb2)
   clear hb2
   generalize hd1:(Lib.decodeGo (s.extract p s.size)).1=r at *
   generalize hd2:(Lib.decodeGo (s.extract p s.size)).2=k at *
   clear hd1 hd2
   obtain rfl:k=charAt s p:=HW1.out
   by_cases hr:r=65533
   ·have hk1:¬ charAt s p=1:=fun h=>HW2.out h hr
    subst hr
    have q1:((charAt s p:Int)==1)=false:=by simp;omega
    go_wp2_with fail
    go_roundw
    case rel=>exact ⟨p+charAt s p,by go_num,hw3,HK2,HB2.out⟩
    case measure=>simp [intOf];omega
   ·have q1:((r:Int)==65533)=false:=by simp;omega
    go_wp2_with fail
    go_roundw
    case rel=>exact ⟨p+charAt s p,by go_num,hw3,HK2,HB2.out⟩
    case measure=>simp [intOf];omega
  ·go_wp2_with fail
   go_ret
   exact ⟨rfl,HB.out⟩
end Go.Proofs.YtiefeajappjnbaaGreatDoor

/- Quote of layer 35: its walk. -/
namespace Go.Proofs.YtiefeajappjnbaaGreatDoor
open Go.RowKit
def escK (c:Int):Int:=Lib.indexByte [34,92,8,12,10,13,9] c.toNat.toUInt8
theorem escK_nat:∀ n:Nat,n<256→Lib.indexByte [34,92,8,12,10,13,9] n.toUInt8=if n=34 then 0 else if n=92 then 1 else if n=8 then 2 else if n=12 then 3 else if n=10 then 4 else if n=13 then 5 else if n=9 then 6 else -1:=by decide +kernel
theorem escK_no {c:Int} (h0:0≤c) (h1:c≤255) (g1:c≠34) (g2:c≠92) (g3:c≠8) (g4:c≠12) (g5:c≠10) (g6:c≠13) (g7:c≠9):escK c=-1:=by
 have h:=escK_nat c.toNat (by omega)
 rw [if_neg (by omega),if_neg (by omega),if_neg (by omega),if_neg (by omega),if_neg (by omega),if_neg (by omega),if_neg (by omega)] at h
 exact h
theorem idx7 (c:Int) (w:World):Calls Tryz.prog 196 #[.string ⟨#[34,92,8,12,10,13,9]⟩,.int .u8 c] w fun e w'=>e=.returned (.int .i64 (escK c))∧w=w':=(Tryz.strings_IndexByte _ c w).mono fun _ _ h=>⟨h.1,h.2.symm⟩
theorem cell_six_new (w:World) (a b c d e f:Value) (t:TypeId):∀ j u,[a,b,c,d,e,f][j]?=some u→(w.alloc (.cells #[a,b,c,d,e,f] t)).cell? ((⟨w.heap.size,0,none⟩:Addr).add j)=some u:=by
 intro j u hu
 have hadd:(⟨w.heap.size,0,none⟩:Addr).add j=⟨w.heap.size,j,none⟩:=by unfold Addr.add;split<;>simp_all
 rw [hadd,cell_of_row _ w.heap.size j _ _ _ (heap_alloc_new w _)]
 simpa using hu
theorem cell_six_drew (w:World) (a b c d e f:Value) (t:TypeId):∀ j u,[a,b,c,d,e,f][j]?=some u→(w.alloc (.cells #[a,b,c,d,e,f] t)).drew.cell? ((⟨w.heap.size,0,none⟩:Addr).add j)=some u:=cell_six_new w a b c d e f t
theorem own_drew {w:World} {B n:Nat} {v:Value} {xs:List Value} (h:w.ownsRow B 5 1 v n xs):w.drew.ownsRow B 5 1 v n xs:=h
theorem base_drew {w:World} {B:Nat} (h:B≤w.heap.size) (o:Obj):B≤(w.alloc o).drew.heap.size:=by
 show B≤(w.alloc o).heap.size
 rw [World.size_alloc];omega
theorem own_one (w:World) (B:Nat) (hB:B≤w.heap.size):(w.alloc (.cells #[.int .u8 34] 5)).ownsRow B 5 1 (.slice (some ⟨w.heap.size,0,none⟩) 1 1) 1 ([34].map (Value.int .u8)) :=
 ⟨rfl,.inr ⟨w.heap.size,1,#[.int .u8 34],rfl,hB,heap_alloc_new w _,by omega,by unfold maxLen;omega,rfl,rfl⟩⟩
theorem own_mapc {w:World} {B n:Nat} {v:Value} {out l:List Int} (h:w.ownsRow B 5 1 v n (out.map (Value.int .u8)++l.map (Value.int .u8))) (hn:n=(out++l).length):w.ownsRow B 5 1 v (out++l).length ((out++l).map (Value.int .u8)):=by
 subst hn;rwa [List.map_append]
theorem byteI_range {s:ByteArray} {n:Nat} (h:n<s.size):0≤byteI s n∧byteI s n≤255:=by
 rw [← byteI_eq h]
 have:=UInt8.toNat_lt s[n]
 omega
theorem ret_str2 {l:IntKind} {a b:ByteArray} {c d:Int} (h:a=b) (g:c=d):Ending.returned (.tuple #[.string a,.int l c])=.returned (.tuple #[.string b,.int l d]):=by rw [h,g]
def QteR (s:ByteArray) (w:World) (e:Ending) (w':World):Prop:=e=.returned (.tuple #[.string (quoteS s),.int .i64 0])∧Below w.heap.size w w'
def QRel (s:ByteArray) (w:World) (i:Nat) (v:Value) (wr:World):Prop :=
 wr.ownsRow w.heap.size 5 1 v (34::escL ((nums s).take i)).length ((34::escL ((nums s).take i)).map (Value.int .u8))∧Below w.heap.size w wr
theorem qlen {s:ByteArray} {i:Nat} (hs:s.size≤65536):(34::escL ((nums s).take i)).length≤393217:=by
 have h1:=escL_len ((nums s).take i)
 have h2:((nums s).take i).length≤s.size:=by rw [List.length_take,nums_length];omega
 simp only [List.length_cons]
 omega
theorem qnext {s:ByteArray} {w w3:World} {i n:Nat} {v':Value} {l:List Int} (hi:i<s.size) (he:escB (byteI s i)=l)
 (h:w3.ownsRow w.heap.size 5 1 v' n ((34::escL ((nums s).take i)).map (Value.int .u8)++l.map (Value.int .u8))) (hn:n=(34::escL ((nums s).take i)).length+l.length) (hb:Below w.heap.size w w3):QRel s w (i+1) v' w3:=by
 refine ⟨?_,hb⟩
 have e:(34::escL ((nums s).take (i+1)))=(34::escL ((nums s).take i))++l:=by rw [esc_take hi,he];rfl
 rw [e]
 exact own_mapc h (by rw [hn,List.length_append])
set_option maxRecDepth 100000 in
set_option maxHeartbeats 12800000 in
theorem quote_p (s:ByteArray) (w:World) (hs:s.size≤65536) (hT:Lib.Utf8Tabs 0 1 w) (hv:validS s=true):Calls Tryz.prog 154 #[.string s] w (QteR s w):=by
 obtain ⟨i0,hin,hz0,hz1,hz2⟩:=info_parts infoU8
 go_enter Tryz.func154,Tryz.ntmps154
 go_wp2_with fail
 refine (bad_p s w (by omega) hT hv).mono ?_
 rintro e w0 ⟨rfl,hb0⟩
 clear hT hv
 have HB0:=Hd hb0
 clear hb0
 go_wp2_with fail
 go_simp
 go_loopw [4,5] (fun v t wr=>∃ i:Nat,t=.int .i64 i∧i≤s.size∧Hid (QRel s w i v wr)) (fun _ t _=>s.size-(intOf t).toNat)
 case atStart=>exact ⟨0,rfl,by omega,Hd ⟨own_one w0 _ HB0.out.size,HB0.out.alloc HB0.out.size _⟩⟩
 case round =>
  obtain ⟨w1,rfl⟩:∃ w1,w1=wr:=⟨wr,rfl⟩
  obtain ⟨i,rfl,hi,hrel⟩:=hrel
  have HO:=Hd hrel.out.1
  have HB:=Hd hrel.out.2
  have hql:=qlen (s:=s) (i:=i) hs
  clear hrel HB0
  by_cases hlt:i<s.size
  case neg =>
   have hie:i=s.size:=by omega
   have hnl:(nums s).take i=nums s:=List.take_of_length_le (by rw [nums_length];omega)
   have HN:=Hd hnl
   clear hnl hie
   go_wp2_with (first
    | (at_builtin;refine wpList_append_own _ rfl _ _ 26 rfl w.heap.size 5 i0 (.int .u8 0) 1 1 Tryz.underlying26 hin hz0 hz1 hz2 rfl (by decide) _ _ _ rfl (HO.out.alloc _) ⟨w1.heap.size,0,none⟩ 1 1 [.int .u8 (34)] rfl rfl (cell_one_new _ _ _) (fun x hx=>by simp at hx;rcases hx with rfl<;>rfl) (by unfold maxLen;omega) (by omega) (by simp only [World.size_alloc];have:=HB.out.size;omega) ?_
       intro v' w3 hown' hgrow3 _
       have HB3:=Hd (show Below w.heap.size w w3 from Below.grown (HB.out.alloc HB.out.size _) hgrow3 (by simp only [World.size_alloc];have:=HB.out.size;omega) (fun j hj=>by have:=(HO.out.lt _ hj).1;omega))
       have hconv:=conv_owned (own_mapc (l:=[34]) hown' (by rw [List.length_append];rfl)) rfl
       clear hown' hgrow3))
   go_ret2
   exact ⟨ret_str2 (by rw [HN.out];rfl) rfl,HB3.out⟩
  have hb:=byteI_eq hlt
  have hr:=byteI_range hlt
  by_cases g34:byteI s i=34
  ·have HE:=Hd (show escB (byteI s i)=[92,34] by rw [g34];rfl)
   have hx:escK 34=0:=by decide +kernel
   have hcj:∀ h:0<(⟨#[34,92,98,102,110,114,116]⟩:ByteArray).size,((⟨#[34,92,98,102,110,114,116]⟩:ByteArray)[0]'h).toNat=34:=fun _=>rfl
   go_wp2_with (first
    | (go_at_call 196;refine (idx7 _ _).mono ?_;rintro e w' ⟨rfl,rfl⟩)
    | (at_builtin;refine wpList_append_own _ rfl _ _ 26 rfl w.heap.size 5 i0 (.int .u8 0) 1 1 Tryz.underlying26 hin hz0 hz1 hz2 rfl (by decide) _ _ _ rfl (HO.out.alloc _) ⟨w1.heap.size,0,none⟩ 2 2 [.int .u8 (92),.int .u8 (34)] rfl rfl (cell_two_new _ _ _ _) (fun x hx=>by simp at hx;rcases hx with rfl | rfl<;>rfl) (by unfold maxLen;omega) (by omega) (by simp only [World.size_alloc];have:=HB.out.size;omega) ?_
       intro v' w3 hown' hgrow3 _
       have HB3:=Hd (show Below w.heap.size w w3 from Below.grown (HB.out.alloc HB.out.size _) hgrow3 (by simp only [World.size_alloc];have:=HB.out.size;omega) (fun j hj=>by have:=(HO.out.lt _ hj).1;omega))
       have HO3:=Hd hown'
       clear hown' hgrow3))
   go_roundw
   case rel=>exact ⟨i+1,by go_num,by omega,Hd (qnext hlt HE.out (l:=[92,34]) HO3.out rfl HB3.out)⟩
   case measure=>simp [intOf];omega
  by_cases g92:byteI s i=92
  ·have HE:=Hd (show escB (byteI s i)=[92,92] by rw [g92];rfl)
   have hx:escK 92=1:=by decide +kernel
   have hcj:∀ h:1<(⟨#[34,92,98,102,110,114,116]⟩:ByteArray).size,((⟨#[34,92,98,102,110,114,116]⟩:ByteArray)[1]'h).toNat=92:=fun _=>rfl
   go_wp2_with (first
    | (go_at_call 196;refine (idx7 _ _).mono ?_;rintro e w' ⟨rfl,rfl⟩)
    | (at_builtin;refine wpList_append_own _ rfl _ _ 26 rfl w.heap.size 5 i0 (.int .u8 0) 1 1 Tryz.underlying26 hin hz0 hz1 hz2 rfl (by decide) _ _ _ rfl (HO.out.alloc _) ⟨w1.heap.size,0,none⟩ 2 2 [.int .u8 (92),.int .u8 (92)] rfl rfl (cell_two_new _ _ _ _) (fun x hx=>by simp at hx;rcases hx with rfl | rfl<;>rfl) (by unfold maxLen;omega) (by omega) (by simp only [World.size_alloc];have:=HB.out.size;omega) ?_
       intro v' w3 hown' hgrow3 _
       have HB3:=Hd (show Below w.heap.size w w3 from Below.grown (HB.out.alloc HB.out.size _) hgrow3 (by simp only [World.size_alloc];have:=HB.out.size;omega) (fun j hj=>by have:=(HO.out.lt _ hj).1;omega))
       have HO3:=Hd hown'
       clear hown' hgrow3))
   go_roundw
   case rel=>exact ⟨i+1,by go_num,by omega,Hd (qnext hlt HE.out (l:=[92,92]) HO3.out rfl HB3.out)⟩
   case measure=>simp [intOf];omega
  by_cases g8:byteI s i=8
  ·have HE:=Hd (show escB (byteI s i)=[92,98] by rw [g8];rfl)
   have hx:escK 8=2:=by decide +kernel
   have hcj:∀ h:2<(⟨#[34,92,98,102,110,114,116]⟩:ByteArray).size,((⟨#[34,92,98,102,110,114,116]⟩:ByteArray)[2]'h).toNat=98:=fun _=>rfl
   go_wp2_with (first
    | (go_at_call 196;refine (idx7 _ _).mono ?_;rintro e w' ⟨rfl,rfl⟩)
    | (at_builtin;refine wpList_append_own _ rfl _ _ 26 rfl w.heap.size 5 i0 (.int .u8 0) 1 1 Tryz.underlying26 hin hz0 hz1 hz2 rfl (by decide) _ _ _ rfl (HO.out.alloc _) ⟨w1.heap.size,0,none⟩ 2 2 [.int .u8 (92),.int .u8 (98)] rfl rfl (cell_two_new _ _ _ _) (fun x hx=>by simp at hx;rcases hx with rfl | rfl<;>rfl) (by unfold maxLen;omega) (by omega) (by simp only [World.size_alloc];have:=HB.out.size;omega) ?_
       intro v' w3 hown' hgrow3 _
       have HB3:=Hd (show Below w.heap.size w w3 from Below.grown (HB.out.alloc HB.out.size _) hgrow3 (by simp only [World.size_alloc];have:=HB.out.size;omega) (fun j hj=>by have:=(HO.out.lt _ hj).1;omega))
       have HO3:=Hd hown'
       clear hown' hgrow3))
   go_roundw
   case rel=>exact ⟨i+1,by go_num,by omega,Hd (qnext hlt HE.out (l:=[92,98]) HO3.out rfl HB3.out)⟩
   case measure=>simp [intOf];omega
  by_cases g12:byteI s i=12
  ·have HE:=Hd (show escB (byteI s i)=[92,102] by rw [g12];rfl)
   have hx:escK 12=3:=by decide +kernel
   have hcj:∀ h:3<(⟨#[34,92,98,102,110,114,116]⟩:ByteArray).size,((⟨#[34,92,98,102,110,114,116]⟩:ByteArray)[3]'h).toNat=102:=fun _=>rfl
   go_wp2_with (first
    | (go_at_call 196;refine (idx7 _ _).mono ?_;rintro e w' ⟨rfl,rfl⟩)
    | (at_builtin;refine wpList_append_own _ rfl _ _ 26 rfl w.heap.size 5 i0 (.int .u8 0) 1 1 Tryz.underlying26 hin hz0 hz1 hz2 rfl (by decide) _ _ _ rfl (HO.out.alloc _) ⟨w1.heap.size,0,none⟩ 2 2 [.int .u8 (92),.int .u8 (102)] rfl rfl (cell_two_new _ _ _ _) (fun x hx=>by simp at hx;rcases hx with rfl | rfl<;>rfl) (by unfold maxLen;omega) (by omega) (by simp only [World.size_alloc];have:=HB.out.size;omega) ?_
       intro v' w3 hown' hgrow3 _
       have HB3:=Hd (show Below w.heap.size w w3 from Below.grown (HB.out.alloc HB.out.size _) hgrow3 (by simp only [World.size_alloc];have:=HB.out.size;omega) (fun j hj=>by have:=(HO.out.lt _ hj).1;omega))
       have HO3:=Hd hown'
       clear hown' hgrow3))
   go_roundw
   case rel=>exact ⟨i+1,by go_num,by omega,Hd (qnext hlt HE.out (l:=[92,102]) HO3.out rfl HB3.out)⟩
   case measure=>simp [intOf];omega
  by_cases g10:byteI s i=10
  ·have HE:=Hd (show escB (byteI s i)=[92,110] by rw [g10];rfl)
   have hx:escK 10=4:=by decide +kernel
   have hcj:∀ h:4<(⟨#[34,92,98,102,110,114,116]⟩:ByteArray).size,((⟨#[34,92,98,102,110,114,116]⟩:ByteArray)[4]'h).toNat=110:=fun _=>rfl
   go_wp2_with (first
    | (go_at_call 196;refine (idx7 _ _).mono ?_;rintro e w' ⟨rfl,rfl⟩)
    | (at_builtin;refine wpList_append_own _ rfl _ _ 26 rfl w.heap.size 5 i0 (.int .u8 0) 1 1 Tryz.underlying26 hin hz0 hz1 hz2 rfl (by decide) _ _ _ rfl (HO.out.alloc _) ⟨w1.heap.size,0,none⟩ 2 2 [.int .u8 (92),.int .u8 (110)] rfl rfl (cell_two_new _ _ _ _) (fun x hx=>by simp at hx;rcases hx with rfl | rfl<;>rfl) (by unfold maxLen;omega) (by omega) (by simp only [World.size_alloc];have:=HB.out.size;omega) ?_
       intro v' w3 hown' hgrow3 _
       have HB3:=Hd (show Below w.heap.size w w3 from Below.grown (HB.out.alloc HB.out.size _) hgrow3 (by simp only [World.size_alloc];have:=HB.out.size;omega) (fun j hj=>by have:=(HO.out.lt _ hj).1;omega))
       have HO3:=Hd hown'
       clear hown' hgrow3))
   go_roundw
   case rel=>exact ⟨i+1,by go_num,by omega,Hd (qnext hlt HE.out (l:=[92,110]) HO3.out rfl HB3.out)⟩
   case measure=>simp [intOf];omega
  by_cases g13:byteI s i=13
  ·have HE:=Hd (show escB (byteI s i)=[92,114] by rw [g13];rfl)
   have hx:escK 13=5:=by decide +kernel
   have hcj:∀ h:5<(⟨#[34,92,98,102,110,114,116]⟩:ByteArray).size,((⟨#[34,92,98,102,110,114,116]⟩:ByteArray)[5]'h).toNat=114:=fun _=>rfl
   go_wp2_with (first
    | (go_at_call 196;refine (idx7 _ _).mono ?_;rintro e w' ⟨rfl,rfl⟩)
    | (at_builtin;refine wpList_append_own _ rfl _ _ 26 rfl w.heap.size 5 i0 (.int .u8 0) 1 1 Tryz.underlying26 hin hz0 hz1 hz2 rfl (by decide) _ _ _ rfl (HO.out.alloc _) ⟨w1.heap.size,0,none⟩ 2 2 [.int .u8 (92),.int .u8 (114)] rfl rfl (cell_two_new _ _ _ _) (fun x hx=>by simp at hx;rcases hx with rfl | rfl<;>rfl) (by unfold maxLen;omega) (by omega) (by simp only [World.size_alloc];have:=HB.out.size;omega) ?_
       intro v' w3 hown' hgrow3 _
       have HB3:=Hd (show Below w.heap.size w w3 from Below.grown (HB.out.alloc HB.out.size _) hgrow3 (by simp only [World.size_alloc];have:=HB.out.size;omega) (fun j hj=>by have:=(HO.out.lt _ hj).1;omega))
       have HO3:=Hd hown'
       clear hown' hgrow3))
   go_roundw
   case rel=>exact ⟨i+1,by go_num,by omega,Hd (qnext hlt HE.out (l:=[92,114]) HO3.out rfl HB3.out)⟩
   case measure=>simp [intOf];omega
  by_cases g9:byteI s i=9
  ·have HE:=Hd (show escB (byteI s i)=[92,116] by rw [g9];rfl)
   have hx:escK 9=6:=by decide +kernel
   have hcj:∀ h:6<(⟨#[34,92,98,102,110,114,116]⟩:ByteArray).size,((⟨#[34,92,98,102,110,114,116]⟩:ByteArray)[6]'h).toNat=116:=fun _=>rfl
   go_wp2_with (first
    | (go_at_call 196;refine (idx7 _ _).mono ?_;rintro e w' ⟨rfl,rfl⟩)
    | (at_builtin;refine wpList_append_own _ rfl _ _ 26 rfl w.heap.size 5 i0 (.int .u8 0) 1 1 Tryz.underlying26 hin hz0 hz1 hz2 rfl (by decide) _ _ _ rfl (HO.out.alloc _) ⟨w1.heap.size,0,none⟩ 2 2 [.int .u8 (92),.int .u8 (116)] rfl rfl (cell_two_new _ _ _ _) (fun x hx=>by simp at hx;rcases hx with rfl | rfl<;>rfl) (by unfold maxLen;omega) (by omega) (by simp only [World.size_alloc];have:=HB.out.size;omega) ?_
       intro v' w3 hown' hgrow3 _
       have HB3:=Hd (show Below w.heap.size w w3 from Below.grown (HB.out.alloc HB.out.size _) hgrow3 (by simp only [World.size_alloc];have:=HB.out.size;omega) (fun j hj=>by have:=(HO.out.lt _ hj).1;omega))
       have HO3:=Hd hown'
       clear hown' hgrow3))
   go_roundw
   case rel=>exact ⟨i+1,by go_num,by omega,Hd (qnext hlt HE.out (l:=[92,116]) HO3.out rfl HB3.out)⟩
   case measure=>simp [intOf];omega
  have HNo:=Hd (show byteI s i≠34∧byteI s i≠92∧byteI s i≠8∧byteI s i≠12∧byteI s i≠10∧byteI s i≠13∧byteI s i≠9 from ⟨g34,g92,g8,g12,g10,g13,g9⟩)
  clear g34 g92 g8 g12 g10 g13 g9
  by_cases hctl:byteI s i<32
  case neg =>
   have hx:escK (byteI s i)=-1:=escK_no hr.1 hr.2 HNo.out.1 HNo.out.2.1 HNo.out.2.2.1 HNo.out.2.2.2.1 HNo.out.2.2.2.2.1 HNo.out.2.2.2.2.2.1 HNo.out.2.2.2.2.2.2
   have HE:=Hd (show escB (byteI s i)=[byteI s i] by
    have n:=HNo.out
    unfold escB
    rw [if_neg n.1,if_neg n.2.1,if_neg n.2.2.1,if_neg n.2.2.2.1,if_neg n.2.2.2.2.1,if_neg n.2.2.2.2.2.1,if_neg n.2.2.2.2.2.2,if_neg hctl])
   go_wp2_with (first
    | (go_at_call 196;refine (idx7 _ _).mono ?_;rintro e w' ⟨rfl,rfl⟩)
    | (at_builtin;refine wpList_append_own _ rfl _ _ 26 rfl w.heap.size 5 i0 (.int .u8 0) 1 1 Tryz.underlying26 hin hz0 hz1 hz2 rfl (by decide) _ _ _ rfl (HO.out.alloc _) ⟨w1.heap.size,0,none⟩ 1 1 [.int .u8 (byteI s i)] rfl rfl (cell_one_new _ _ _) (fun x hx=>by simp at hx;rcases hx with rfl<;>rfl) (by unfold maxLen;omega) (by omega) (by simp only [World.size_alloc];have:=HB.out.size;omega) ?_
       intro v' w3 hown' hgrow3 _
       have HB3:=Hd (show Below w.heap.size w w3 from Below.grown (HB.out.alloc HB.out.size _) hgrow3 (by simp only [World.size_alloc];have:=HB.out.size;omega) (fun j hj=>by have:=(HO.out.lt _ hj).1;omega))
       have HO3:=Hd hown'
       clear hown' hgrow3))
   go_roundw
   case rel=>exact ⟨i+1,by go_num,by omega,Hd (qnext hlt HE.out (l:=[byteI s i]) HO3.out rfl HB3.out)⟩
   case measure=>simp [intOf];omega
  have hcls:byteI s i=0∨byteI s i=1∨byteI s i=2∨byteI s i=3∨byteI s i=4∨byteI s i=5∨byteI s i=6∨byteI s i=7∨byteI s i=11∨byteI s i=14∨byteI s i=15∨byteI s i=16∨byteI s i=17∨byteI s i=18∨byteI s i=19∨byteI s i=20∨byteI s i=21∨byteI s i=22∨byteI s i=23∨byteI s i=24∨byteI s i=25∨byteI s i=26∨byteI s i=27∨byteI s i=28∨byteI s i=29∨byteI s i=30∨byteI s i=31:=by have:=HNo.out;omega
  clear hctl hr
  rcases hcls with g | g | g | g | g | g | g | g | g | g | g | g | g | g | g | g | g | g | g | g | g | g | g | g | g | g | g
  ·have HE:=Hd (show escB (byteI s i)=[92,117,48,48,48,48] by rw [g];rfl)
   have hx:escK 0=-1:=by decide +kernel
   have hbits:bits BinOp.and IntKind.u8 0 15=0:=by decide +kernel
   have hd1:∀ h:0<(⟨#[48,49,50,51,52,53,54,55,56,57,97,98,99,100,101,102]⟩:ByteArray).size,((⟨#[48,49,50,51,52,53,54,55,56,57,97,98,99,100,101,102]⟩:ByteArray)[0]'h).toNat=48:=fun _=>rfl
   have hd2:∀ h:0<(⟨#[48,49,50,51,52,53,54,55,56,57,97,98,99,100,101,102]⟩:ByteArray).size,((⟨#[48,49,50,51,52,53,54,55,56,57,97,98,99,100,101,102]⟩:ByteArray)[0]'h).toNat=48:=fun _=>rfl
   go_wp2_with (first
    | (go_at_call 196;refine (idx7 _ _).mono ?_;rintro e w' ⟨rfl,rfl⟩))
   go_region_law (rw [if_pos (by rfl)];refine wp_append_own _ _ _ 26 rfl w.heap.size 5 i0 (.int .u8 0) 1 1 Tryz.underlying26 hin hz0 hz1 hz2 rfl (by decide) _ _ _ rfl (own_drew (HO.out.alloc _)) ⟨w1.heap.size,0,none⟩ 6 6 [.int .u8 (92),.int .u8 (117),.int .u8 (48),.int .u8 (48),.int .u8 (48),.int .u8 (48)] rfl rfl (cell_six_drew _ _ _ _ _ _ _ _) (fun x hx=>by simp at hx;rcases hx with rfl | rfl | rfl | rfl | rfl | rfl<;>rfl) (by unfold maxLen;omega) (by omega) (base_drew HB.out.size _) ?_
                  intro v' w3 hown' hgrow3 _
                  have HB3:=Hd (show Below w.heap.size w w3 from Below.grown ((HB.out.alloc HB.out.size _).drew) hgrow3 (base_drew HB.out.size _) (fun j hj=>by have:=(HO.out.lt _ hj).1;omega))
                  have HO3:=Hd hown'
                  clear hown' hgrow3)
   all_goals
    go_wp2_with fail
    go_roundw
    case rel=>exact ⟨i+1,by go_num,by omega,Hd (qnext hlt HE.out (l:=[92,117,48,48,48,48]) HO3.out rfl HB3.out)⟩
    case measure=>simp [intOf];omega
  ·have HE:=Hd (show escB (byteI s i)=[92,117,48,48,48,49] by rw [g];rfl)
   have hx:escK 1=-1:=by decide +kernel
   have hbits:bits BinOp.and IntKind.u8 1 15=1:=by decide +kernel
   have hd1:∀ h:0<(⟨#[48,49,50,51,52,53,54,55,56,57,97,98,99,100,101,102]⟩:ByteArray).size,((⟨#[48,49,50,51,52,53,54,55,56,57,97,98,99,100,101,102]⟩:ByteArray)[0]'h).toNat=48:=fun _=>rfl
   have hd2:∀ h:1<(⟨#[48,49,50,51,52,53,54,55,56,57,97,98,99,100,101,102]⟩:ByteArray).size,((⟨#[48,49,50,51,52,53,54,55,56,57,97,98,99,100,101,102]⟩:ByteArray)[1]'h).toNat=49:=fun _=>rfl
   go_wp2_with (first
    | (go_at_call 196;refine (idx7 _ _).mono ?_;rintro e w' ⟨rfl,rfl⟩))
   go_region_law (rw [if_pos (by rfl)];refine wp_append_own _ _ _ 26 rfl w.heap.size 5 i0 (.int .u8 0) 1 1 Tryz.underlying26 hin hz0 hz1 hz2 rfl (by decide) _ _ _ rfl (own_drew (HO.out.alloc _)) ⟨w1.heap.size,0,none⟩ 6 6 [.int .u8 (92),.int .u8 (117),.int .u8 (48),.int .u8 (48),.int .u8 (48),.int .u8 (49)] rfl rfl (cell_six_drew _ _ _ _ _ _ _ _) (fun x hx=>by simp at hx;rcases hx with rfl | rfl | rfl | rfl | rfl | rfl<;>rfl) (by unfold maxLen;omega) (by omega) (base_drew HB.out.size _) ?_
                  intro v' w3 hown' hgrow3 _
                  have HB3:=Hd (show Below w.heap.size w w3 from Below.grown ((HB.out.alloc HB.out.size _).drew) hgrow3 (base_drew HB.out.size _) (fun j hj=>by have:=(HO.out.lt _ hj).1;omega))
                  have HO3:=Hd hown'
                  clear hown' hgrow3)
   all_goals
    go_wp2_with fail
    go_roundw
    case rel=>exact ⟨i+1,by go_num,by omega,Hd (qnext hlt HE.out (l:=[92,117,48,48,48,49]) HO3.out rfl HB3.out)⟩
    case measure=>simp [intOf];omega
  ·have HE:=Hd (show escB (byteI s i)=[92,117,48,48,48,50] by rw [g];rfl)
   have hx:escK 2=-1:=by decide +kernel
   have hbits:bits BinOp.and IntKind.u8 2 15=2:=by decide +kernel
   have hd1:∀ h:0<(⟨#[48,49,50,51,52,53,54,55,56,57,97,98,99,100,101,102]⟩:ByteArray).size,((⟨#[48,49,50,51,52,53,54,55,56,57,97,98,99,100,101,102]⟩:ByteArray)[0]'h).toNat=48:=fun _=>rfl
   have hd2:∀ h:2<(⟨#[48,49,50,51,52,53,54,55,56,57,97,98,99,100,101,102]⟩:ByteArray).size,((⟨#[48,49,50,51,52,53,54,55,56,57,97,98,99,100,101,102]⟩:ByteArray)[2]'h).toNat=50:=fun _=>rfl
   go_wp2_with (first
    | (go_at_call 196;refine (idx7 _ _).mono ?_;rintro e w' ⟨rfl,rfl⟩))
   go_region_law (rw [if_pos (by rfl)];refine wp_append_own _ _ _ 26 rfl w.heap.size 5 i0 (.int .u8 0) 1 1 Tryz.underlying26 hin hz0 hz1 hz2 rfl (by decide) _ _ _ rfl (own_drew (HO.out.alloc _)) ⟨w1.heap.size,0,none⟩ 6 6 [.int .u8 (92),.int .u8 (117),.int .u8 (48),.int .u8 (48),.int .u8 (48),.int .u8 (50)] rfl rfl (cell_six_drew _ _ _ _ _ _ _ _) (fun x hx=>by simp at hx;rcases hx with rfl | rfl | rfl | rfl | rfl | rfl<;>rfl) (by unfold maxLen;omega) (by omega) (base_drew HB.out.size _) ?_
                  intro v' w3 hown' hgrow3 _
                  have HB3:=Hd (show Below w.heap.size w w3 from Below.grown ((HB.out.alloc HB.out.size _).drew) hgrow3 (base_drew HB.out.size _) (fun j hj=>by have:=(HO.out.lt _ hj).1;omega))
                  have HO3:=Hd hown'
                  clear hown' hgrow3)
   all_goals
    go_wp2_with fail
    go_roundw
    case rel=>exact ⟨i+1,by go_num,by omega,Hd (qnext hlt HE.out (l:=[92,117,48,48,48,50]) HO3.out rfl HB3.out)⟩
    case measure=>simp [intOf];omega
  ·have HE:=Hd (show escB (byteI s i)=[92,117,48,48,48,51] by rw [g];rfl)
   have hx:escK 3=-1:=by decide +kernel
   have hbits:bits BinOp.and IntKind.u8 3 15=3:=by decide +kernel
   have hd1:∀ h:0<(⟨#[48,49,50,51,52,53,54,55,56,57,97,98,99,100,101,102]⟩:ByteArray).size,((⟨#[48,49,50,51,52,53,54,55,56,57,97,98,99,100,101,102]⟩:ByteArray)[0]'h).toNat=48:=fun _=>rfl
   have hd2:∀ h:3<(⟨#[48,49,50,51,52,53,54,55,56,57,97,98,99,100,101,102]⟩:ByteArray).size,((⟨#[48,49,50,51,52,53,54,55,56,57,97,98,99,100,101,102]⟩:ByteArray)[3]'h).toNat=51:=fun _=>rfl
   go_wp2_with (first
    | (go_at_call 196;refine (idx7 _ _).mono ?_;rintro e w' ⟨rfl,rfl⟩))
   go_region_law (rw [if_pos (by rfl)];refine wp_append_own _ _ _ 26 rfl w.heap.size 5 i0 (.int .u8 0) 1 1 Tryz.underlying26 hin hz0 hz1 hz2 rfl (by decide) _ _ _ rfl (own_drew (HO.out.alloc _)) ⟨w1.heap.size,0,none⟩ 6 6 [.int .u8 (92),.int .u8 (117),.int .u8 (48),.int .u8 (48),.int .u8 (48),.int .u8 (51)] rfl rfl (cell_six_drew _ _ _ _ _ _ _ _) (fun x hx=>by simp at hx;rcases hx with rfl | rfl | rfl | rfl | rfl | rfl<;>rfl) (by unfold maxLen;omega) (by omega) (base_drew HB.out.size _) ?_
                  intro v' w3 hown' hgrow3 _
                  have HB3:=Hd (show Below w.heap.size w w3 from Below.grown ((HB.out.alloc HB.out.size _).drew) hgrow3 (base_drew HB.out.size _) (fun j hj=>by have:=(HO.out.lt _ hj).1;omega))
                  have HO3:=Hd hown'
                  clear hown' hgrow3)
   all_goals
    go_wp2_with fail
    go_roundw
    case rel=>exact ⟨i+1,by go_num,by omega,Hd (qnext hlt HE.out (l:=[92,117,48,48,48,51]) HO3.out rfl HB3.out)⟩
    case measure=>simp [intOf];omega
  ·have HE:=Hd (show escB (byteI s i)=[92,117,48,48,48,52] by rw [g];rfl)
   have hx:escK 4=-1:=by decide +kernel
   have hbits:bits BinOp.and IntKind.u8 4 15=4:=by decide +kernel
   have hd1:∀ h:0<(⟨#[48,49,50,51,52,53,54,55,56,57,97,98,99,100,101,102]⟩:ByteArray).size,((⟨#[48,49,50,51,52,53,54,55,56,57,97,98,99,100,101,102]⟩:ByteArray)[0]'h).toNat=48:=fun _=>rfl
   have hd2:∀ h:4<(⟨#[48,49,50,51,52,53,54,55,56,57,97,98,99,100,101,102]⟩:ByteArray).size,((⟨#[48,49,50,51,52,53,54,55,56,57,97,98,99,100,101,102]⟩:ByteArray)[4]'h).toNat=52:=fun _=>rfl
   go_wp2_with (first
    | (go_at_call 196;refine (idx7 _ _).mono ?_;rintro e w' ⟨rfl,rfl⟩))
   go_region_law (rw [if_pos (by rfl)];refine wp_append_own _ _ _ 26 rfl w.heap.size 5 i0 (.int .u8 0) 1 1 Tryz.underlying26 hin hz0 hz1 hz2 rfl (by decide) _ _ _ rfl (own_drew (HO.out.alloc _)) ⟨w1.heap.size,0,none⟩ 6 6 [.int .u8 (92),.int .u8 (117),.int .u8 (48),.int .u8 (48),.int .u8 (48),.int .u8 (52)] rfl rfl (cell_six_drew _ _ _ _ _ _ _ _) (fun x hx=>by simp at hx;rcases hx with rfl | rfl | rfl | rfl | rfl | rfl<;>rfl) (by unfold maxLen;omega) (by omega) (base_drew HB.out.size _) ?_
                  intro v' w3 hown' hgrow3 _
                  have HB3:=Hd (show Below w.heap.size w w3 from Below.grown ((HB.out.alloc HB.out.size _).drew) hgrow3 (base_drew HB.out.size _) (fun j hj=>by have:=(HO.out.lt _ hj).1;omega))
                  have HO3:=Hd hown'
                  clear hown' hgrow3)
   all_goals
    go_wp2_with fail
    go_roundw
    case rel=>exact ⟨i+1,by go_num,by omega,Hd (qnext hlt HE.out (l:=[92,117,48,48,48,52]) HO3.out rfl HB3.out)⟩
    case measure=>simp [intOf];omega
  ·have HE:=Hd (show escB (byteI s i)=[92,117,48,48,48,53] by rw [g];rfl)
   have hx:escK 5=-1:=by decide +kernel
   have hbits:bits BinOp.and IntKind.u8 5 15=5:=by decide +kernel
   have hd1:∀ h:0<(⟨#[48,49,50,51,52,53,54,55,56,57,97,98,99,100,101,102]⟩:ByteArray).size,((⟨#[48,49,50,51,52,53,54,55,56,57,97,98,99,100,101,102]⟩:ByteArray)[0]'h).toNat=48:=fun _=>rfl
   have hd2:∀ h:5<(⟨#[48,49,50,51,52,53,54,55,56,57,97,98,99,100,101,102]⟩:ByteArray).size,((⟨#[48,49,50,51,52,53,54,55,56,57,97,98,99,100,101,102]⟩:ByteArray)[5]'h).toNat=53:=fun _=>rfl
   go_wp2_with (first
    | (go_at_call 196;refine (idx7 _ _).mono ?_;rintro e w' ⟨rfl,rfl⟩))
   go_region_law (rw [if_pos (by rfl)];refine wp_append_own _ _ _ 26 rfl w.heap.size 5 i0 (.int .u8 0) 1 1 Tryz.underlying26 hin hz0 hz1 hz2 rfl (by decide) _ _ _ rfl (own_drew (HO.out.alloc _)) ⟨w1.heap.size,0,none⟩ 6 6 [.int .u8 (92),.int .u8 (117),.int .u8 (48),.int .u8 (48),.int .u8 (48),.int .u8 (53)] rfl rfl (cell_six_drew _ _ _ _ _ _ _ _) (fun x hx=>by simp at hx;rcases hx with rfl | rfl | rfl | rfl | rfl | rfl<;>rfl) (by unfold maxLen;omega) (by omega) (base_drew HB.out.size _) ?_
                  intro v' w3 hown' hgrow3 _
                  have HB3:=Hd (show Below w.heap.size w w3 from Below.grown ((HB.out.alloc HB.out.size _).drew) hgrow3 (base_drew HB.out.size _) (fun j hj=>by have:=(HO.out.lt _ hj).1;omega))
                  have HO3:=Hd hown'
                  clear hown' hgrow3)
   all_goals
    go_wp2_with fail
    go_roundw
    case rel=>exact ⟨i+1,by go_num,by omega,Hd (qnext hlt HE.out (l:=[92,117,48,48,48,53]) HO3.out rfl HB3.out)⟩
    case measure=>simp [intOf];omega
  ·have HE:=Hd (show escB (byteI s i)=[92,117,48,48,48,54] by rw [g];rfl)
   have hx:escK 6=-1:=by decide +kernel
   have hbits:bits BinOp.and IntKind.u8 6 15=6:=by decide +kernel
   have hd1:∀ h:0<(⟨#[48,49,50,51,52,53,54,55,56,57,97,98,99,100,101,102]⟩:ByteArray).size,((⟨#[48,49,50,51,52,53,54,55,56,57,97,98,99,100,101,102]⟩:ByteArray)[0]'h).toNat=48:=fun _=>rfl
   have hd2:∀ h:6<(⟨#[48,49,50,51,52,53,54,55,56,57,97,98,99,100,101,102]⟩:ByteArray).size,((⟨#[48,49,50,51,52,53,54,55,56,57,97,98,99,100,101,102]⟩:ByteArray)[6]'h).toNat=54:=fun _=>rfl
   go_wp2_with (first
    | (go_at_call 196;refine (idx7 _ _).mono ?_;rintro e w' ⟨rfl,rfl⟩))
   go_region_law (rw [if_pos (by rfl)];refine wp_append_own _ _ _ 26 rfl w.heap.size 5 i0 (.int .u8 0) 1 1 Tryz.underlying26 hin hz0 hz1 hz2 rfl (by decide) _ _ _ rfl (own_drew (HO.out.alloc _)) ⟨w1.heap.size,0,none⟩ 6 6 [.int .u8 (92),.int .u8 (117),.int .u8 (48),.int .u8 (48),.int .u8 (48),.int .u8 (54)] rfl rfl (cell_six_drew _ _ _ _ _ _ _ _) (fun x hx=>by simp at hx;rcases hx with rfl | rfl | rfl | rfl | rfl | rfl<;>rfl) (by unfold maxLen;omega) (by omega) (base_drew HB.out.size _) ?_
                  intro v' w3 hown' hgrow3 _
                  have HB3:=Hd (show Below w.heap.size w w3 from Below.grown ((HB.out.alloc HB.out.size _).drew) hgrow3 (base_drew HB.out.size _) (fun j hj=>by have:=(HO.out.lt _ hj).1;omega))
                  have HO3:=Hd hown'
                  clear hown' hgrow3)
   all_goals
    go_wp2_with fail
    go_roundw
    case rel=>exact ⟨i+1,by go_num,by omega,Hd (qnext hlt HE.out (l:=[92,117,48,48,48,54]) HO3.out rfl HB3.out)⟩
    case measure=>simp [intOf];omega
  ·have HE:=Hd (show escB (byteI s i)=[92,117,48,48,48,55] by rw [g];rfl)
   have hx:escK 7=-1:=by decide +kernel
   have hbits:bits BinOp.and IntKind.u8 7 15=7:=by decide +kernel
   have hd1:∀ h:0<(⟨#[48,49,50,51,52,53,54,55,56,57,97,98,99,100,101,102]⟩:ByteArray).size,((⟨#[48,49,50,51,52,53,54,55,56,57,97,98,99,100,101,102]⟩:ByteArray)[0]'h).toNat=48:=fun _=>rfl
   have hd2:∀ h:7<(⟨#[48,49,50,51,52,53,54,55,56,57,97,98,99,100,101,102]⟩:ByteArray).size,((⟨#[48,49,50,51,52,53,54,55,56,57,97,98,99,100,101,102]⟩:ByteArray)[7]'h).toNat=55:=fun _=>rfl
   go_wp2_with (first
    | (go_at_call 196;refine (idx7 _ _).mono ?_;rintro e w' ⟨rfl,rfl⟩))
   go_region_law (rw [if_pos (by rfl)];refine wp_append_own _ _ _ 26 rfl w.heap.size 5 i0 (.int .u8 0) 1 1 Tryz.underlying26 hin hz0 hz1 hz2 rfl (by decide) _ _ _ rfl (own_drew (HO.out.alloc _)) ⟨w1.heap.size,0,none⟩ 6 6 [.int .u8 (92),.int .u8 (117),.int .u8 (48),.int .u8 (48),.int .u8 (48),.int .u8 (55)] rfl rfl (cell_six_drew _ _ _ _ _ _ _ _) (fun x hx=>by simp at hx;rcases hx with rfl | rfl | rfl | rfl | rfl | rfl<;>rfl) (by unfold maxLen;omega) (by omega) (base_drew HB.out.size _) ?_
                  intro v' w3 hown' hgrow3 _
                  have HB3:=Hd (show Below w.heap.size w w3 from Below.grown ((HB.out.alloc HB.out.size _).drew) hgrow3 (base_drew HB.out.size _) (fun j hj=>by have:=(HO.out.lt _ hj).1;omega))
                  have HO3:=Hd hown'
                  clear hown' hgrow3)
   all_goals
    go_wp2_with fail
    go_roundw
    case rel=>exact ⟨i+1,by go_num,by omega,Hd (qnext hlt HE.out (l:=[92,117,48,48,48,55]) HO3.out rfl HB3.out)⟩
    case measure=>simp [intOf];omega
  ·have HE:=Hd (show escB (byteI s i)=[92,117,48,48,48,98] by rw [g];rfl)
   have hx:escK 11=-1:=by decide +kernel
   have hbits:bits BinOp.and IntKind.u8 11 15=11:=by decide +kernel
   have hd1:∀ h:0<(⟨#[48,49,50,51,52,53,54,55,56,57,97,98,99,100,101,102]⟩:ByteArray).size,((⟨#[48,49,50,51,52,53,54,55,56,57,97,98,99,100,101,102]⟩:ByteArray)[0]'h).toNat=48:=fun _=>rfl
   have hd2:∀ h:11<(⟨#[48,49,50,51,52,53,54,55,56,57,97,98,99,100,101,102]⟩:ByteArray).size,((⟨#[48,49,50,51,52,53,54,55,56,57,97,98,99,100,101,102]⟩:ByteArray)[11]'h).toNat=98:=fun _=>rfl
   go_wp2_with (first
    | (go_at_call 196;refine (idx7 _ _).mono ?_;rintro e w' ⟨rfl,rfl⟩))
   go_region_law (rw [if_pos (by rfl)];refine wp_append_own _ _ _ 26 rfl w.heap.size 5 i0 (.int .u8 0) 1 1 Tryz.underlying26 hin hz0 hz1 hz2 rfl (by decide) _ _ _ rfl (own_drew (HO.out.alloc _)) ⟨w1.heap.size,0,none⟩ 6 6 [.int .u8 (92),.int .u8 (117),.int .u8 (48),.int .u8 (48),.int .u8 (48),.int .u8 (98)] rfl rfl (cell_six_drew _ _ _ _ _ _ _ _) (fun x hx=>by simp at hx;rcases hx with rfl | rfl | rfl | rfl | rfl | rfl<;>rfl) (by unfold maxLen;omega) (by omega) (base_drew HB.out.size _) ?_
                  intro v' w3 hown' hgrow3 _
                  have HB3:=Hd (show Below w.heap.size w w3 from Below.grown ((HB.out.alloc HB.out.size _).drew) hgrow3 (base_drew HB.out.size _) (fun j hj=>by have:=(HO.out.lt _ hj).1;omega))
                  have HO3:=Hd hown'
                  clear hown' hgrow3)
   all_goals
    go_wp2_with fail
    go_roundw
    case rel=>exact ⟨i+1,by go_num,by omega,Hd (qnext hlt HE.out (l:=[92,117,48,48,48,98]) HO3.out rfl HB3.out)⟩
    case measure=>simp [intOf];omega
  ·have HE:=Hd (show escB (byteI s i)=[92,117,48,48,48,101] by rw [g];rfl)
   have hx:escK 14=-1:=by decide +kernel
   have hbits:bits BinOp.and IntKind.u8 14 15=14:=by decide +kernel
   have hd1:∀ h:0<(⟨#[48,49,50,51,52,53,54,55,56,57,97,98,99,100,101,102]⟩:ByteArray).size,((⟨#[48,49,50,51,52,53,54,55,56,57,97,98,99,100,101,102]⟩:ByteArray)[0]'h).toNat=48:=fun _=>rfl
   have hd2:∀ h:14<(⟨#[48,49,50,51,52,53,54,55,56,57,97,98,99,100,101,102]⟩:ByteArray).size,((⟨#[48,49,50,51,52,53,54,55,56,57,97,98,99,100,101,102]⟩:ByteArray)[14]'h).toNat=101:=fun _=>rfl
   go_wp2_with (first
    | (go_at_call 196;refine (idx7 _ _).mono ?_;rintro e w' ⟨rfl,rfl⟩))
   go_region_law (rw [if_pos (by rfl)];refine wp_append_own _ _ _ 26 rfl w.heap.size 5 i0 (.int .u8 0) 1 1 Tryz.underlying26 hin hz0 hz1 hz2 rfl (by decide) _ _ _ rfl (own_drew (HO.out.alloc _)) ⟨w1.heap.size,0,none⟩ 6 6 [.int .u8 (92),.int .u8 (117),.int .u8 (48),.int .u8 (48),.int .u8 (48),.int .u8 (101)] rfl rfl (cell_six_drew _ _ _ _ _ _ _ _) (fun x hx=>by simp at hx;rcases hx with rfl | rfl | rfl | rfl | rfl | rfl<;>rfl) (by unfold maxLen;omega) (by omega) (base_drew HB.out.size _) ?_
                  intro v' w3 hown' hgrow3 _
                  have HB3:=Hd (show Below w.heap.size w w3 from Below.grown ((HB.out.alloc HB.out.size _).drew) hgrow3 (base_drew HB.out.size _) (fun j hj=>by have:=(HO.out.lt _ hj).1;omega))
                  have HO3:=Hd hown'
                  clear hown' hgrow3)
   all_goals
    go_wp2_with fail
    go_roundw
    case rel=>exact ⟨i+1,by go_num,by omega,Hd (qnext hlt HE.out (l:=[92,117,48,48,48,101]) HO3.out rfl HB3.out)⟩
    case measure=>simp [intOf];omega
  ·have HE:=Hd (show escB (byteI s i)=[92,117,48,48,48,102] by rw [g];rfl)
   have hx:escK 15=-1:=by decide +kernel
   have hbits:bits BinOp.and IntKind.u8 15 15=15:=by decide +kernel
   have hd1:∀ h:0<(⟨#[48,49,50,51,52,53,54,55,56,57,97,98,99,100,101,102]⟩:ByteArray).size,((⟨#[48,49,50,51,52,53,54,55,56,57,97,98,99,100,101,102]⟩:ByteArray)[0]'h).toNat=48:=fun _=>rfl
   have hd2:∀ h:15<(⟨#[48,49,50,51,52,53,54,55,56,57,97,98,99,100,101,102]⟩:ByteArray).size,((⟨#[48,49,50,51,52,53,54,55,56,57,97,98,99,100,101,102]⟩:ByteArray)[15]'h).toNat=102:=fun _=>rfl
   go_wp2_with (first
    | (go_at_call 196;refine (idx7 _ _).mono ?_;rintro e w' ⟨rfl,rfl⟩))
   go_region_law (rw [if_pos (by rfl)];refine wp_append_own _ _ _ 26 rfl w.heap.size 5 i0 (.int .u8 0) 1 1 Tryz.underlying26 hin hz0 hz1 hz2 rfl (by decide) _ _ _ rfl (own_drew (HO.out.alloc _)) ⟨w1.heap.size,0,none⟩ 6 6 [.int .u8 (92),.int .u8 (117),.int .u8 (48),.int .u8 (48),.int .u8 (48),.int .u8 (102)] rfl rfl (cell_six_drew _ _ _ _ _ _ _ _) (fun x hx=>by simp at hx;rcases hx with rfl | rfl | rfl | rfl | rfl | rfl<;>rfl) (by unfold maxLen;omega) (by omega) (base_drew HB.out.size _) ?_
                  intro v' w3 hown' hgrow3 _
                  have HB3:=Hd (show Below w.heap.size w w3 from Below.grown ((HB.out.alloc HB.out.size _).drew) hgrow3 (base_drew HB.out.size _) (fun j hj=>by have:=(HO.out.lt _ hj).1;omega))
                  have HO3:=Hd hown'
                  clear hown' hgrow3)
   all_goals
    go_wp2_with fail
    go_roundw
    case rel=>exact ⟨i+1,by go_num,by omega,Hd (qnext hlt HE.out (l:=[92,117,48,48,48,102]) HO3.out rfl HB3.out)⟩
    case measure=>simp [intOf];omega
  ·have HE:=Hd (show escB (byteI s i)=[92,117,48,48,49,48] by rw [g];rfl)
   have hx:escK 16=-1:=by decide +kernel
   have hbits:bits BinOp.and IntKind.u8 16 15=0:=by decide +kernel
   have hd1:∀ h:1<(⟨#[48,49,50,51,52,53,54,55,56,57,97,98,99,100,101,102]⟩:ByteArray).size,((⟨#[48,49,50,51,52,53,54,55,56,57,97,98,99,100,101,102]⟩:ByteArray)[1]'h).toNat=49:=fun _=>rfl
   have hd2:∀ h:0<(⟨#[48,49,50,51,52,53,54,55,56,57,97,98,99,100,101,102]⟩:ByteArray).size,((⟨#[48,49,50,51,52,53,54,55,56,57,97,98,99,100,101,102]⟩:ByteArray)[0]'h).toNat=48:=fun _=>rfl
   go_wp2_with (first
    | (go_at_call 196;refine (idx7 _ _).mono ?_;rintro e w' ⟨rfl,rfl⟩))
   go_region_law (rw [if_pos (by rfl)];refine wp_append_own _ _ _ 26 rfl w.heap.size 5 i0 (.int .u8 0) 1 1 Tryz.underlying26 hin hz0 hz1 hz2 rfl (by decide) _ _ _ rfl (own_drew (HO.out.alloc _)) ⟨w1.heap.size,0,none⟩ 6 6 [.int .u8 (92),.int .u8 (117),.int .u8 (48),.int .u8 (48),.int .u8 (49),.int .u8 (48)] rfl rfl (cell_six_drew _ _ _ _ _ _ _ _) (fun x hx=>by simp at hx;rcases hx with rfl | rfl | rfl | rfl | rfl | rfl<;>rfl) (by unfold maxLen;omega) (by omega) (base_drew HB.out.size _) ?_
                  intro v' w3 hown' hgrow3 _
                  have HB3:=Hd (show Below w.heap.size w w3 from Below.grown ((HB.out.alloc HB.out.size _).drew) hgrow3 (base_drew HB.out.size _) (fun j hj=>by have:=(HO.out.lt _ hj).1;omega))
                  have HO3:=Hd hown'
                  clear hown' hgrow3)
   all_goals
    go_wp2_with fail
    go_roundw
    case rel=>exact ⟨i+1,by go_num,by omega,Hd (qnext hlt HE.out (l:=[92,117,48,48,49,48]) HO3.out rfl HB3.out)⟩
    case measure=>simp [intOf];omega
  ·have HE:=Hd (show escB (byteI s i)=[92,117,48,48,49,49] by rw [g];rfl)
   have hx:escK 17=-1:=by decide +kernel
   have hbits:bits BinOp.and IntKind.u8 17 15=1:=by decide +kernel
   have hd1:∀ h:1<(⟨#[48,49,50,51,52,53,54,55,56,57,97,98,99,100,101,102]⟩:ByteArray).size,((⟨#[48,49,50,51,52,53,54,55,56,57,97,98,99,100,101,102]⟩:ByteArray)[1]'h).toNat=49:=fun _=>rfl
   have hd2:∀ h:1<(⟨#[48,49,50,51,52,53,54,55,56,57,97,98,99,100,101,102]⟩:ByteArray).size,((⟨#[48,49,50,51,52,53,54,55,56,57,97,98,99,100,101,102]⟩:ByteArray)[1]'h).toNat=49:=fun _=>rfl
   go_wp2_with (first
    | (go_at_call 196;refine (idx7 _ _).mono ?_;rintro e w' ⟨rfl,rfl⟩))
   go_region_law (rw [if_pos (by rfl)];refine wp_append_own _ _ _ 26 rfl w.heap.size 5 i0 (.int .u8 0) 1 1 Tryz.underlying26 hin hz0 hz1 hz2 rfl (by decide) _ _ _ rfl (own_drew (HO.out.alloc _)) ⟨w1.heap.size,0,none⟩ 6 6 [.int .u8 (92),.int .u8 (117),.int .u8 (48),.int .u8 (48),.int .u8 (49),.int .u8 (49)] rfl rfl (cell_six_drew _ _ _ _ _ _ _ _) (fun x hx=>by simp at hx;rcases hx with rfl | rfl | rfl | rfl | rfl | rfl<;>rfl) (by unfold maxLen;omega) (by omega) (base_drew HB.out.size _) ?_
                  intro v' w3 hown' hgrow3 _
                  have HB3:=Hd (show Below w.heap.size w w3 from Below.grown ((HB.out.alloc HB.out.size _).drew) hgrow3 (base_drew HB.out.size _) (fun j hj=>by have:=(HO.out.lt _ hj).1;omega))
                  have HO3:=Hd hown'
                  clear hown' hgrow3)
   all_goals
    go_wp2_with fail
    go_roundw
    case rel=>exact ⟨i+1,by go_num,by omega,Hd (qnext hlt HE.out (l:=[92,117,48,48,49,49]) HO3.out rfl HB3.out)⟩
    case measure=>simp [intOf];omega
  ·have HE:=Hd (show escB (byteI s i)=[92,117,48,48,49,50] by rw [g];rfl)
   have hx:escK 18=-1:=by decide +kernel
   have hbits:bits BinOp.and IntKind.u8 18 15=2:=by decide +kernel
   have hd1:∀ h:1<(⟨#[48,49,50,51,52,53,54,55,56,57,97,98,99,100,101,102]⟩:ByteArray).size,((⟨#[48,49,50,51,52,53,54,55,56,57,97,98,99,100,101,102]⟩:ByteArray)[1]'h).toNat=49:=fun _=>rfl
   have hd2:∀ h:2<(⟨#[48,49,50,51,52,53,54,55,56,57,97,98,99,100,101,102]⟩:ByteArray).size,((⟨#[48,49,50,51,52,53,54,55,56,57,97,98,99,100,101,102]⟩:ByteArray)[2]'h).toNat=50:=fun _=>rfl
   go_wp2_with (first
    | (go_at_call 196;refine (idx7 _ _).mono ?_;rintro e w' ⟨rfl,rfl⟩))
   go_region_law (rw [if_pos (by rfl)];refine wp_append_own _ _ _ 26 rfl w.heap.size 5 i0 (.int .u8 0) 1 1 Tryz.underlying26 hin hz0 hz1 hz2 rfl (by decide) _ _ _ rfl (own_drew (HO.out.alloc _)) ⟨w1.heap.size,0,none⟩ 6 6 [.int .u8 (92),.int .u8 (117),.int .u8 (48),.int .u8 (48),.int .u8 (49),.int .u8 (50)] rfl rfl (cell_six_drew _ _ _ _ _ _ _ _) (fun x hx=>by simp at hx;rcases hx with rfl | rfl | rfl | rfl | rfl | rfl<;>rfl) (by unfold maxLen;omega) (by omega) (base_drew HB.out.size _) ?_
                  intro v' w3 hown' hgrow3 _
                  have HB3:=Hd (show Below w.heap.size w w3 from Below.grown ((HB.out.alloc HB.out.size _).drew) hgrow3 (base_drew HB.out.size _) (fun j hj=>by have:=(HO.out.lt _ hj).1;omega))
                  have HO3:=Hd hown'
                  clear hown' hgrow3)
   all_goals
    go_wp2_with fail
    go_roundw
    case rel=>exact ⟨i+1,by go_num,by omega,Hd (qnext hlt HE.out (l:=[92,117,48,48,49,50]) HO3.out rfl HB3.out)⟩
    case measure=>simp [intOf];omega
  ·have HE:=Hd (show escB (byteI s i)=[92,117,48,48,49,51] by rw [g];rfl)
   have hx:escK 19=-1:=by decide +kernel
   have hbits:bits BinOp.and IntKind.u8 19 15=3:=by decide +kernel
   have hd1:∀ h:1<(⟨#[48,49,50,51,52,53,54,55,56,57,97,98,99,100,101,102]⟩:ByteArray).size,((⟨#[48,49,50,51,52,53,54,55,56,57,97,98,99,100,101,102]⟩:ByteArray)[1]'h).toNat=49:=fun _=>rfl
   have hd2:∀ h:3<(⟨#[48,49,50,51,52,53,54,55,56,57,97,98,99,100,101,102]⟩:ByteArray).size,((⟨#[48,49,50,51,52,53,54,55,56,57,97,98,99,100,101,102]⟩:ByteArray)[3]'h).toNat=51:=fun _=>rfl
   go_wp2_with (first
    | (go_at_call 196;refine (idx7 _ _).mono ?_;rintro e w' ⟨rfl,rfl⟩))
   go_region_law (rw [if_pos (by rfl)];refine wp_append_own _ _ _ 26 rfl w.heap.size 5 i0 (.int .u8 0) 1 1 Tryz.underlying26 hin hz0 hz1 hz2 rfl (by decide) _ _ _ rfl (own_drew (HO.out.alloc _)) ⟨w1.heap.size,0,none⟩ 6 6 [.int .u8 (92),.int .u8 (117),.int .u8 (48),.int .u8 (48),.int .u8 (49),.int .u8 (51)] rfl rfl (cell_six_drew _ _ _ _ _ _ _ _) (fun x hx=>by simp at hx;rcases hx with rfl | rfl | rfl | rfl | rfl | rfl<;>rfl) (by unfold maxLen;omega) (by omega) (base_drew HB.out.size _) ?_
                  intro v' w3 hown' hgrow3 _
                  have HB3:=Hd (show Below w.heap.size w w3 from Below.grown ((HB.out.alloc HB.out.size _).drew) hgrow3 (base_drew HB.out.size _) (fun j hj=>by have:=(HO.out.lt _ hj).1;omega))
                  have HO3:=Hd hown'
                  clear hown' hgrow3)
   all_goals
    go_wp2_with fail
    go_roundw
    case rel=>exact ⟨i+1,by go_num,by omega,Hd (qnext hlt HE.out (l:=[92,117,48,48,49,51]) HO3.out rfl HB3.out)⟩
    case measure=>simp [intOf];omega
  ·have HE:=Hd (show escB (byteI s i)=[92,117,48,48,49,52] by rw [g];rfl)
   have hx:escK 20=-1:=by decide +kernel
   have hbits:bits BinOp.and IntKind.u8 20 15=4:=by decide +kernel
   have hd1:∀ h:1<(⟨#[48,49,50,51,52,53,54,55,56,57,97,98,99,100,101,102]⟩:ByteArray).size,((⟨#[48,49,50,51,52,53,54,55,56,57,97,98,99,100,101,102]⟩:ByteArray)[1]'h).toNat=49:=fun _=>rfl
   have hd2:∀ h:4<(⟨#[48,49,50,51,52,53,54,55,56,57,97,98,99,100,101,102]⟩:ByteArray).size,((⟨#[48,49,50,51,52,53,54,55,56,57,97,98,99,100,101,102]⟩:ByteArray)[4]'h).toNat=52:=fun _=>rfl
   go_wp2_with (first
    | (go_at_call 196;refine (idx7 _ _).mono ?_;rintro e w' ⟨rfl,rfl⟩))
   go_region_law (rw [if_pos (by rfl)];refine wp_append_own _ _ _ 26 rfl w.heap.size 5 i0 (.int .u8 0) 1 1 Tryz.underlying26 hin hz0 hz1 hz2 rfl (by decide) _ _ _ rfl (own_drew (HO.out.alloc _)) ⟨w1.heap.size,0,none⟩ 6 6 [.int .u8 (92),.int .u8 (117),.int .u8 (48),.int .u8 (48),.int .u8 (49),.int .u8 (52)] rfl rfl (cell_six_drew _ _ _ _ _ _ _ _) (fun x hx=>by simp at hx;rcases hx with rfl | rfl | rfl | rfl | rfl | rfl<;>rfl) (by unfold maxLen;omega) (by omega) (base_drew HB.out.size _) ?_
                  intro v' w3 hown' hgrow3 _
                  have HB3:=Hd (show Below w.heap.size w w3 from Below.grown ((HB.out.alloc HB.out.size _).drew) hgrow3 (base_drew HB.out.size _) (fun j hj=>by have:=(HO.out.lt _ hj).1;omega))
                  have HO3:=Hd hown'
                  clear hown' hgrow3)
   all_goals
    go_wp2_with fail
    go_roundw
    case rel=>exact ⟨i+1,by go_num,by omega,Hd (qnext hlt HE.out (l:=[92,117,48,48,49,52]) HO3.out rfl HB3.out)⟩
    case measure=>simp [intOf];omega
  ·have HE:=Hd (show escB (byteI s i)=[92,117,48,48,49,53] by rw [g];rfl)
   have hx:escK 21=-1:=by decide +kernel
   have hbits:bits BinOp.and IntKind.u8 21 15=5:=by decide +kernel
   have hd1:∀ h:1<(⟨#[48,49,50,51,52,53,54,55,56,57,97,98,99,100,101,102]⟩:ByteArray).size,((⟨#[48,49,50,51,52,53,54,55,56,57,97,98,99,100,101,102]⟩:ByteArray)[1]'h).toNat=49:=fun _=>rfl
   have hd2:∀ h:5<(⟨#[48,49,50,51,52,53,54,55,56,57,97,98,99,100,101,102]⟩:ByteArray).size,((⟨#[48,49,50,51,52,53,54,55,56,57,97,98,99,100,101,102]⟩:ByteArray)[5]'h).toNat=53:=fun _=>rfl
   go_wp2_with (first
    | (go_at_call 196;refine (idx7 _ _).mono ?_;rintro e w' ⟨rfl,rfl⟩))
   go_region_law (rw [if_pos (by rfl)];refine wp_append_own _ _ _ 26 rfl w.heap.size 5 i0 (.int .u8 0) 1 1 Tryz.underlying26 hin hz0 hz1 hz2 rfl (by decide) _ _ _ rfl (own_drew (HO.out.alloc _)) ⟨w1.heap.size,0,none⟩ 6 6 [.int .u8 (92),.int .u8 (117),.int .u8 (48),.int .u8 (48),.int .u8 (49),.int .u8 (53)] rfl rfl (cell_six_drew _ _ _ _ _ _ _ _) (fun x hx=>by simp at hx;rcases hx with rfl | rfl | rfl | rfl | rfl | rfl<;>rfl) (by unfold maxLen;omega) (by omega) (base_drew HB.out.size _) ?_
                  intro v' w3 hown' hgrow3 _
                  have HB3:=Hd (show Below w.heap.size w w3 from Below.grown ((HB.out.alloc HB.out.size _).drew) hgrow3 (base_drew HB.out.size _) (fun j hj=>by have:=(HO.out.lt _ hj).1;omega))
                  have HO3:=Hd hown'
                  clear hown' hgrow3)
   all_goals
    go_wp2_with fail
    go_roundw
    case rel=>exact ⟨i+1,by go_num,by omega,Hd (qnext hlt HE.out (l:=[92,117,48,48,49,53]) HO3.out rfl HB3.out)⟩
    case measure=>simp [intOf];omega
  ·have HE:=Hd (show escB (byteI s i)=[92,117,48,48,49,54] by rw [g];rfl)
   have hx:escK 22=-1:=by decide +kernel
   have hbits:bits BinOp.and IntKind.u8 22 15=6:=by decide +kernel
   have hd1:∀ h:1<(⟨#[48,49,50,51,52,53,54,55,56,57,97,98,99,100,101,102]⟩:ByteArray).size,((⟨#[48,49,50,51,52,53,54,55,56,57,97,98,99,100,101,102]⟩:ByteArray)[1]'h).toNat=49:=fun _=>rfl
   have hd2:∀ h:6<(⟨#[48,49,50,51,52,53,54,55,56,57,97,98,99,100,101,102]⟩:ByteArray).size,((⟨#[48,49,50,51,52,53,54,55,56,57,97,98,99,100,101,102]⟩:ByteArray)[6]'h).toNat=54:=fun _=>rfl
   go_wp2_with (first
    | (go_at_call 196;refine (idx7 _ _).mono ?_;rintro e w' ⟨rfl,rfl⟩))
   go_region_law (rw [if_pos (by rfl)];refine wp_append_own _ _ _ 26 rfl w.heap.size 5 i0 (.int .u8 0) 1 1 Tryz.underlying26 hin hz0 hz1 hz2 rfl (by decide) _ _ _ rfl (own_drew (HO.out.alloc _)) ⟨w1.heap.size,0,none⟩ 6 6 [.int .u8 (92),.int .u8 (117),.int .u8 (48),.int .u8 (48),.int .u8 (49),.int .u8 (54)] rfl rfl (cell_six_drew _ _ _ _ _ _ _ _) (fun x hx=>by simp at hx;rcases hx with rfl | rfl | rfl | rfl | rfl | rfl<;>rfl) (by unfold maxLen;omega) (by omega) (base_drew HB.out.size _) ?_
                  intro v' w3 hown' hgrow3 _
                  have HB3:=Hd (show Below w.heap.size w w3 from Below.grown ((HB.out.alloc HB.out.size _).drew) hgrow3 (base_drew HB.out.size _) (fun j hj=>by have:=(HO.out.lt _ hj).1;omega))
                  have HO3:=Hd hown'
                  clear hown' hgrow3)
   all_goals
    go_wp2_with fail
    go_roundw
    case rel=>exact ⟨i+1,by go_num,by omega,Hd (qnext hlt HE.out (l:=[92,117,48,48,49,54]) HO3.out rfl HB3.out)⟩
    case measure=>simp [intOf];omega
  ·have HE:=Hd (show escB (byteI s i)=[92,117,48,48,49,55] by rw [g];rfl)
   have hx:escK 23=-1:=by decide +kernel
   have hbits:bits BinOp.and IntKind.u8 23 15=7:=by decide +kernel
   have hd1:∀ h:1<(⟨#[48,49,50,51,52,53,54,55,56,57,97,98,99,100,101,102]⟩:ByteArray).size,((⟨#[48,49,50,51,52,53,54,55,56,57,97,98,99,100,101,102]⟩:ByteArray)[1]'h).toNat=49:=fun _=>rfl
   have hd2:∀ h:7<(⟨#[48,49,50,51,52,53,54,55,56,57,97,98,99,100,101,102]⟩:ByteArray).size,((⟨#[48,49,50,51,52,53,54,55,56,57,97,98,99,100,101,102]⟩:ByteArray)[7]'h).toNat=55:=fun _=>rfl
   go_wp2_with (first
    | (go_at_call 196;refine (idx7 _ _).mono ?_;rintro e w' ⟨rfl,rfl⟩))
   go_region_law (rw [if_pos (by rfl)];refine wp_append_own _ _ _ 26 rfl w.heap.size 5 i0 (.int .u8 0) 1 1 Tryz.underlying26 hin hz0 hz1 hz2 rfl (by decide) _ _ _ rfl (own_drew (HO.out.alloc _)) ⟨w1.heap.size,0,none⟩ 6 6 [.int .u8 (92),.int .u8 (117),.int .u8 (48),.int .u8 (48),.int .u8 (49),.int .u8 (55)] rfl rfl (cell_six_drew _ _ _ _ _ _ _ _) (fun x hx=>by simp at hx;rcases hx with rfl | rfl | rfl | rfl | rfl | rfl<;>rfl) (by unfold maxLen;omega) (by omega) (base_drew HB.out.size _) ?_
                  intro v' w3 hown' hgrow3 _
                  have HB3:=Hd (show Below w.heap.size w w3 from Below.grown ((HB.out.alloc HB.out.size _).drew) hgrow3 (base_drew HB.out.size _) (fun j hj=>by have:=(HO.out.lt _ hj).1;omega))
                  have HO3:=Hd hown'
                  clear hown' hgrow3)
   all_goals
    go_wp2_with fail
    go_roundw
    case rel=>exact ⟨i+1,by go_num,by omega,Hd (qnext hlt HE.out (l:=[92,117,48,48,49,55]) HO3.out rfl HB3.out)⟩
    case measure=>simp [intOf];omega
  ·have HE:=Hd (show escB (byteI s i)=[92,117,48,48,49,56] by rw [g];rfl)
   have hx:escK 24=-1:=by decide +kernel
   have hbits:bits BinOp.and IntKind.u8 24 15=8:=by decide +kernel
   have hd1:∀ h:1<(⟨#[48,49,50,51,52,53,54,55,56,57,97,98,99,100,101,102]⟩:ByteArray).size,((⟨#[48,49,50,51,52,53,54,55,56,57,97,98,99,100,101,102]⟩:ByteArray)[1]'h).toNat=49:=fun _=>rfl
   have hd2:∀ h:8<(⟨#[48,49,50,51,52,53,54,55,56,57,97,98,99,100,101,102]⟩:ByteArray).size,((⟨#[48,49,50,51,52,53,54,55,56,57,97,98,99,100,101,102]⟩:ByteArray)[8]'h).toNat=56:=fun _=>rfl
   go_wp2_with (first
    | (go_at_call 196;refine (idx7 _ _).mono ?_;rintro e w' ⟨rfl,rfl⟩))
   go_region_law (rw [if_pos (by rfl)];refine wp_append_own _ _ _ 26 rfl w.heap.size 5 i0 (.int .u8 0) 1 1 Tryz.underlying26 hin hz0 hz1 hz2 rfl (by decide) _ _ _ rfl (own_drew (HO.out.alloc _)) ⟨w1.heap.size,0,none⟩ 6 6 [.int .u8 (92),.int .u8 (117),.int .u8 (48),.int .u8 (48),.int .u8 (49),.int .u8 (56)] rfl rfl (cell_six_drew _ _ _ _ _ _ _ _) (fun x hx=>by simp at hx;rcases hx with rfl | rfl | rfl | rfl | rfl | rfl<;>rfl) (by unfold maxLen;omega) (by omega) (base_drew HB.out.size _) ?_
                  intro v' w3 hown' hgrow3 _
                  have HB3:=Hd (show Below w.heap.size w w3 from Below.grown ((HB.out.alloc HB.out.size _).drew) hgrow3 (base_drew HB.out.size _) (fun j hj=>by have:=(HO.out.lt _ hj).1;omega))
                  have HO3:=Hd hown'
                  clear hown' hgrow3)
   all_goals
    go_wp2_with fail
    go_roundw
    case rel=>exact ⟨i+1,by go_num,by omega,Hd (qnext hlt HE.out (l:=[92,117,48,48,49,56]) HO3.out rfl HB3.out)⟩
    case measure=>simp [intOf];omega
  ·have HE:=Hd (show escB (byteI s i)=[92,117,48,48,49,57] by rw [g];rfl)
   have hx:escK 25=-1:=by decide +kernel
   have hbits:bits BinOp.and IntKind.u8 25 15=9:=by decide +kernel
   have hd1:∀ h:1<(⟨#[48,49,50,51,52,53,54,55,56,57,97,98,99,100,101,102]⟩:ByteArray).size,((⟨#[48,49,50,51,52,53,54,55,56,57,97,98,99,100,101,102]⟩:ByteArray)[1]'h).toNat=49:=fun _=>rfl
   have hd2:∀ h:9<(⟨#[48,49,50,51,52,53,54,55,56,57,97,98,99,100,101,102]⟩:ByteArray).size,((⟨#[48,49,50,51,52,53,54,55,56,57,97,98,99,100,101,102]⟩:ByteArray)[9]'h).toNat=57:=fun _=>rfl
   go_wp2_with (first
    | (go_at_call 196;refine (idx7 _ _).mono ?_;rintro e w' ⟨rfl,rfl⟩))
   go_region_law (rw [if_pos (by rfl)];refine wp_append_own _ _ _ 26 rfl w.heap.size 5 i0 (.int .u8 0) 1 1 Tryz.underlying26 hin hz0 hz1 hz2 rfl (by decide) _ _ _ rfl (own_drew (HO.out.alloc _)) ⟨w1.heap.size,0,none⟩ 6 6 [.int .u8 (92),.int .u8 (117),.int .u8 (48),.int .u8 (48),.int .u8 (49),.int .u8 (57)] rfl rfl (cell_six_drew _ _ _ _ _ _ _ _) (fun x hx=>by simp at hx;rcases hx with rfl | rfl | rfl | rfl | rfl | rfl<;>rfl) (by unfold maxLen;omega) (by omega) (base_drew HB.out.size _) ?_
                  intro v' w3 hown' hgrow3 _
                  have HB3:=Hd (show Below w.heap.size w w3 from Below.grown ((HB.out.alloc HB.out.size _).drew) hgrow3 (base_drew HB.out.size _) (fun j hj=>by have:=(HO.out.lt _ hj).1;omega))
                  have HO3:=Hd hown'
                  clear hown' hgrow3)
   all_goals
    go_wp2_with fail
    go_roundw
    case rel=>exact ⟨i+1,by go_num,by omega,Hd (qnext hlt HE.out (l:=[92,117,48,48,49,57]) HO3.out rfl HB3.out)⟩
    case measure=>simp [intOf];omega
  ·have HE:=Hd (show escB (byteI s i)=[92,117,48,48,49,97] by rw [g];rfl)
   have hx:escK 26=-1:=by decide +kernel
   have hbits:bits BinOp.and IntKind.u8 26 15=10:=by decide +kernel
   have hd1:∀ h:1<(⟨#[48,49,50,51,52,53,54,55,56,57,97,98,99,100,101,102]⟩:ByteArray).size,((⟨#[48,49,50,51,52,53,54,55,56,57,97,98,99,100,101,102]⟩:ByteArray)[1]'h).toNat=49:=fun _=>rfl
   have hd2:∀ h:10<(⟨#[48,49,50,51,52,53,54,55,56,57,97,98,99,100,101,102]⟩:ByteArray).size,((⟨#[48,49,50,51,52,53,54,55,56,57,97,98,99,100,101,102]⟩:ByteArray)[10]'h).toNat=97:=fun _=>rfl
   go_wp2_with (first
    | (go_at_call 196;refine (idx7 _ _).mono ?_;rintro e w' ⟨rfl,rfl⟩))
   go_region_law (rw [if_pos (by rfl)];refine wp_append_own _ _ _ 26 rfl w.heap.size 5 i0 (.int .u8 0) 1 1 Tryz.underlying26 hin hz0 hz1 hz2 rfl (by decide) _ _ _ rfl (own_drew (HO.out.alloc _)) ⟨w1.heap.size,0,none⟩ 6 6 [.int .u8 (92),.int .u8 (117),.int .u8 (48),.int .u8 (48),.int .u8 (49),.int .u8 (97)] rfl rfl (cell_six_drew _ _ _ _ _ _ _ _) (fun x hx=>by simp at hx;rcases hx with rfl | rfl | rfl | rfl | rfl | rfl<;>rfl) (by unfold maxLen;omega) (by omega) (base_drew HB.out.size _) ?_
                  intro v' w3 hown' hgrow3 _
                  have HB3:=Hd (show Below w.heap.size w w3 from Below.grown ((HB.out.alloc HB.out.size _).drew) hgrow3 (base_drew HB.out.size _) (fun j hj=>by have:=(HO.out.lt _ hj).1;omega))
                  have HO3:=Hd hown'
                  clear hown' hgrow3)
   all_goals
    go_wp2_with fail
    go_roundw
    case rel=>exact ⟨i+1,by go_num,by omega,Hd (qnext hlt HE.out (l:=[92,117,48,48,49,97]) HO3.out rfl HB3.out)⟩
    case measure=>simp [intOf];omega
  ·have HE:=Hd (show escB (byteI s i)=[92,117,48,48,49,98] by rw [g];rfl)
   have hx:escK 27=-1:=by decide +kernel
   have hbits:bits BinOp.and IntKind.u8 27 15=11:=by decide +kernel
   have hd1:∀ h:1<(⟨#[48,49,50,51,52,53,54,55,56,57,97,98,99,100,101,102]⟩:ByteArray).size,((⟨#[48,49,50,51,52,53,54,55,56,57,97,98,99,100,101,102]⟩:ByteArray)[1]'h).toNat=49:=fun _=>rfl
   have hd2:∀ h:11<(⟨#[48,49,50,51,52,53,54,55,56,57,97,98,99,100,101,102]⟩:ByteArray).size,((⟨#[48,49,50,51,52,53,54,55,56,57,97,98,99,100,101,102]⟩:ByteArray)[11]'h).toNat=98:=fun _=>rfl
   go_wp2_with (first
    | (go_at_call 196;refine (idx7 _ _).mono ?_;rintro e w' ⟨rfl,rfl⟩))
   go_region_law (rw [if_pos (by rfl)];refine wp_append_own _ _ _ 26 rfl w.heap.size 5 i0 (.int .u8 0) 1 1 Tryz.underlying26 hin hz0 hz1 hz2 rfl (by decide) _ _ _ rfl (own_drew (HO.out.alloc _)) ⟨w1.heap.size,0,none⟩ 6 6 [.int .u8 (92),.int .u8 (117),.int .u8 (48),.int .u8 (48),.int .u8 (49),.int .u8 (98)] rfl rfl (cell_six_drew _ _ _ _ _ _ _ _) (fun x hx=>by simp at hx;rcases hx with rfl | rfl | rfl | rfl | rfl | rfl<;>rfl) (by unfold maxLen;omega) (by omega) (base_drew HB.out.size _) ?_
                  intro v' w3 hown' hgrow3 _
                  have HB3:=Hd (show Below w.heap.size w w3 from Below.grown ((HB.out.alloc HB.out.size _).drew) hgrow3 (base_drew HB.out.size _) (fun j hj=>by have:=(HO.out.lt _ hj).1;omega))
                  have HO3:=Hd hown'
                  clear hown' hgrow3)
   all_goals
    go_wp2_with fail
    go_roundw
    case rel=>exact ⟨i+1,by go_num,by omega,Hd (qnext hlt HE.out (l:=[92,117,48,48,49,98]) HO3.out rfl HB3.out)⟩
    case measure=>simp [intOf];omega
  ·have HE:=Hd (show escB (byteI s i)=[92,117,48,48,49,99] by rw [g];rfl)
   have hx:escK 28=-1:=by decide +kernel
   have hbits:bits BinOp.and IntKind.u8 28 15=12:=by decide +kernel
   have hd1:∀ h:1<(⟨#[48,49,50,51,52,53,54,55,56,57,97,98,99,100,101,102]⟩:ByteArray).size,((⟨#[48,49,50,51,52,53,54,55,56,57,97,98,99,100,101,102]⟩:ByteArray)[1]'h).toNat=49:=fun _=>rfl
   have hd2:∀ h:12<(⟨#[48,49,50,51,52,53,54,55,56,57,97,98,99,100,101,102]⟩:ByteArray).size,((⟨#[48,49,50,51,52,53,54,55,56,57,97,98,99,100,101,102]⟩:ByteArray)[12]'h).toNat=99:=fun _=>rfl
   go_wp2_with (first
    | (go_at_call 196;refine (idx7 _ _).mono ?_;rintro e w' ⟨rfl,rfl⟩))
   go_region_law (rw [if_pos (by rfl)];refine wp_append_own _ _ _ 26 rfl w.heap.size 5 i0 (.int .u8 0) 1 1 Tryz.underlying26 hin hz0 hz1 hz2 rfl (by decide) _ _ _ rfl (own_drew (HO.out.alloc _)) ⟨w1.heap.size,0,none⟩ 6 6 [.int .u8 (92),.int .u8 (117),.int .u8 (48),.int .u8 (48),.int .u8 (49),.int .u8 (99)] rfl rfl (cell_six_drew _ _ _ _ _ _ _ _) (fun x hx=>by simp at hx;rcases hx with rfl | rfl | rfl | rfl | rfl | rfl<;>rfl) (by unfold maxLen;omega) (by omega) (base_drew HB.out.size _) ?_
                  intro v' w3 hown' hgrow3 _
                  have HB3:=Hd (show Below w.heap.size w w3 from Below.grown ((HB.out.alloc HB.out.size _).drew) hgrow3 (base_drew HB.out.size _) (fun j hj=>by have:=(HO.out.lt _ hj).1;omega))
                  have HO3:=Hd hown'
                  clear hown' hgrow3)
   all_goals
    go_wp2_with fail
    go_roundw
    case rel=>exact ⟨i+1,by go_num,by omega,Hd (qnext hlt HE.out (l:=[92,117,48,48,49,99]) HO3.out rfl HB3.out)⟩
    case measure=>simp [intOf];omega
  ·have HE:=Hd (show escB (byteI s i)=[92,117,48,48,49,100] by rw [g];rfl)
   have hx:escK 29=-1:=by decide +kernel
   have hbits:bits BinOp.and IntKind.u8 29 15=13:=by decide +kernel
   have hd1:∀ h:1<(⟨#[48,49,50,51,52,53,54,55,56,57,97,98,99,100,101,102]⟩:ByteArray).size,((⟨#[48,49,50,51,52,53,54,55,56,57,97,98,99,100,101,102]⟩:ByteArray)[1]'h).toNat=49:=fun _=>rfl
   have hd2:∀ h:13<(⟨#[48,49,50,51,52,53,54,55,56,57,97,98,99,100,101,102]⟩:ByteArray).size,((⟨#[48,49,50,51,52,53,54,55,56,57,97,98,99,100,101,102]⟩:ByteArray)[13]'h).toNat=100:=fun _=>rfl
   go_wp2_with (first
    | (go_at_call 196;refine (idx7 _ _).mono ?_;rintro e w' ⟨rfl,rfl⟩))
   go_region_law (rw [if_pos (by rfl)];refine wp_append_own _ _ _ 26 rfl w.heap.size 5 i0 (.int .u8 0) 1 1 Tryz.underlying26 hin hz0 hz1 hz2 rfl (by decide) _ _ _ rfl (own_drew (HO.out.alloc _)) ⟨w1.heap.size,0,none⟩ 6 6 [.int .u8 (92),.int .u8 (117),.int .u8 (48),.int .u8 (48),.int .u8 (49),.int .u8 (100)] rfl rfl (cell_six_drew _ _ _ _ _ _ _ _) (fun x hx=>by simp at hx;rcases hx with rfl | rfl | rfl | rfl | rfl | rfl<;>rfl) (by unfold maxLen;omega) (by omega) (base_drew HB.out.size _) ?_
                  intro v' w3 hown' hgrow3 _
                  have HB3:=Hd (show Below w.heap.size w w3 from Below.grown ((HB.out.alloc HB.out.size _).drew) hgrow3 (base_drew HB.out.size _) (fun j hj=>by have:=(HO.out.lt _ hj).1;omega))
                  have HO3:=Hd hown'
                  clear hown' hgrow3)
   all_goals
    go_wp2_with fail
    go_roundw
    case rel=>exact ⟨i+1,by go_num,by omega,Hd (qnext hlt HE.out (l:=[92,117,48,48,49,100]) HO3.out rfl HB3.out)⟩
    case measure=>simp [intOf];omega
  ·have HE:=Hd (show escB (byteI s i)=[92,117,48,48,49,101] by rw [g];rfl)
   have hx:escK 30=-1:=by decide +kernel
   have hbits:bits BinOp.and IntKind.u8 30 15=14:=by decide +kernel
   have hd1:∀ h:1<(⟨#[48,49,50,51,52,53,54,55,56,57,97,98,99,100,101,102]⟩:ByteArray).size,((⟨#[48,49,50,51,52,53,54,55,56,57,97,98,99,100,101,102]⟩:ByteArray)[1]'h).toNat=49:=fun _=>rfl
   have hd2:∀ h:14<(⟨#[48,49,50,51,52,53,54,55,56,57,97,98,99,100,101,102]⟩:ByteArray).size,((⟨#[48,49,50,51,52,53,54,55,56,57,97,98,99,100,101,102]⟩:ByteArray)[14]'h).toNat=101:=fun _=>rfl
   go_wp2_with (first
    | (go_at_call 196;refine (idx7 _ _).mono ?_;rintro e w' ⟨rfl,rfl⟩))
   go_region_law (rw [if_pos (by rfl)];refine wp_append_own _ _ _ 26 rfl w.heap.size 5 i0 (.int .u8 0) 1 1 Tryz.underlying26 hin hz0 hz1 hz2 rfl (by decide) _ _ _ rfl (own_drew (HO.out.alloc _)) ⟨w1.heap.size,0,none⟩ 6 6 [.int .u8 (92),.int .u8 (117),.int .u8 (48),.int .u8 (48),.int .u8 (49),.int .u8 (101)] rfl rfl (cell_six_drew _ _ _ _ _ _ _ _) (fun x hx=>by simp at hx;rcases hx with rfl | rfl | rfl | rfl | rfl | rfl<;>rfl) (by unfold maxLen;omega) (by omega) (base_drew HB.out.size _) ?_
                  intro v' w3 hown' hgrow3 _
                  have HB3:=Hd (show Below w.heap.size w w3 from Below.grown ((HB.out.alloc HB.out.size _).drew) hgrow3 (base_drew HB.out.size _) (fun j hj=>by have:=(HO.out.lt _ hj).1;omega))
                  have HO3:=Hd hown'
                  clear hown' hgrow3)
   all_goals
    go_wp2_with fail
    go_roundw
    case rel=>exact ⟨i+1,by go_num,by omega,Hd (qnext hlt HE.out (l:=[92,117,48,48,49,101]) HO3.out rfl HB3.out)⟩
    case measure=>simp [intOf];omega
  ·have HE:=Hd (show escB (byteI s i)=[92,117,48,48,49,102] by rw [g];rfl)
   have hx:escK 31=-1:=by decide +kernel
   have hbits:bits BinOp.and IntKind.u8 31 15=15:=by decide +kernel
   have hd1:∀ h:1<(⟨#[48,49,50,51,52,53,54,55,56,57,97,98,99,100,101,102]⟩:ByteArray).size,((⟨#[48,49,50,51,52,53,54,55,56,57,97,98,99,100,101,102]⟩:ByteArray)[1]'h).toNat=49:=fun _=>rfl
   have hd2:∀ h:15<(⟨#[48,49,50,51,52,53,54,55,56,57,97,98,99,100,101,102]⟩:ByteArray).size,((⟨#[48,49,50,51,52,53,54,55,56,57,97,98,99,100,101,102]⟩:ByteArray)[15]'h).toNat=102:=fun _=>rfl
   go_wp2_with (first
    | (go_at_call 196;refine (idx7 _ _).mono ?_;rintro e w' ⟨rfl,rfl⟩))
   go_region_law (rw [if_pos (by rfl)];refine wp_append_own _ _ _ 26 rfl w.heap.size 5 i0 (.int .u8 0) 1 1 Tryz.underlying26 hin hz0 hz1 hz2 rfl (by decide) _ _ _ rfl (own_drew (HO.out.alloc _)) ⟨w1.heap.size,0,none⟩ 6 6 [.int .u8 (92),.int .u8 (117),.int .u8 (48),.int .u8 (48),.int .u8 (49),.int .u8 (102)] rfl rfl (cell_six_drew _ _ _ _ _ _ _ _) (fun x hx=>by simp at hx;rcases hx with rfl | rfl | rfl | rfl | rfl | rfl<;>rfl) (by unfold maxLen;omega) (by omega) (base_drew HB.out.size _) ?_
                  intro v' w3 hown' hgrow3 _
                  have HB3:=Hd (show Below w.heap.size w w3 from Below.grown ((HB.out.alloc HB.out.size _).drew) hgrow3 (base_drew HB.out.size _) (fun j hj=>by have:=(HO.out.lt _ hj).1;omega))
                  have HO3:=Hd hown'
                  clear hown' hgrow3)
   all_goals
    go_wp2_with fail
    go_roundw
    case rel=>exact ⟨i+1,by go_num,by omega,Hd (qnext hlt HE.out (l:=[92,117,48,48,49,102]) HO3.out rfl HB3.out)⟩
    case measure=>simp [intOf];omega
end Go.Proofs.YtiefeajappjnbaaGreatDoor

/- qparse.quote: a valid string in quotation marks. -/
namespace Go.Proofs.YtiefeajappjnbaaGreatDoor
open Go.RowKit
theorem quote_w (s:ByteArray) (w:World) (hs:s.size≤65536) (hE:Env w) (hv:validS s=true):Calls Tryz.prog 105 #[.string s] w (StrB (quoteS s) w):=by
 have HE:=Hd hE
 have HV:=Hd hv
 clear hE hv
 go_enter Tryz.func105,Tryz.ntmps105
 go_wp2_with fail
 refine (quote_p s w hs HE.out.utf HV.out).mono ?_
 rintro e w1 ⟨rfl,hb⟩
 have HB:=Hd hb
 clear hb
 go_wp2_with fail
 go_ret
 exact ⟨rfl,HB.out⟩
end Go.Proofs.YtiefeajappjnbaaGreatDoor
