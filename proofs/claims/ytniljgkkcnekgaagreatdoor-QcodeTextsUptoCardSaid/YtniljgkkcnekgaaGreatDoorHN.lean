/- What a character's bytes are and what a number's bytes are: when they agree. No program here. -/
import Derived.Test.YtniljgkkcnekgaaGreatDoorProg
import Derived.Test.YtniljgkkcnekgaaGreatDoorGA
import Derived.Test.YtniljgkkcnekgaaGreatDoorGB
import Derived.Test.YtniljgkkcnekgaaGreatDoorGU
namespace Go.Proofs.YtniljgkkcnekgaaGreatDoor
open Go.RowKit
def encL (r:Int):List Int :=
 if r<128 then [r] else if r<2048 then [192+r / 64,128+r % 64] else if r<65536 then [224+r / 4096,128+r / 64 % 64,128+r % 64] else [240+r / 262144,128+r / 4096 % 64,128+r / 64 % 64,128+r % 64]
def mix (s:ByteArray) (p:Nat) (c:Int):Nat→Int
 | 0=>c
 | k+1=>mix s p c k * 64+byteAt s (p+(k+1)) % 64
def isChar (r:Int):Prop:=0≤r∧r≤1114111∧(r<55296∨57343<r)
theorem enc1 {r:Int} (h:r<128):encL r=[r]:=by unfold encL;rw [if_pos h]
theorem enc2 {r:Int} (h:128≤r) (h2:r<2048):encL r=[192+r / 64,128+r % 64]:=by unfold encL;rw [if_neg (by omega),if_pos h2]
theorem enc3 {r:Int} (h:2048≤r) (h2:r<65536):encL r=[224+r / 4096,128+r / 64 % 64,128+r % 64]:=by unfold encL;rw [if_neg (by omega),if_neg (by omega),if_pos h2]
theorem enc4 {r:Int} (h:65536≤r):encL r=[240+r / 262144,128+r / 4096 % 64,128+r / 64 % 64,128+r % 64]:=by unfold encL;rw [if_neg (by omega),if_neg (by omega),if_neg (by omega)]
theorem two_yes {s:ByteArray} {p:Nat} (h1:192≤byteAt s p) (h2:byteAt s p<224) (hs:p+2≤s.size) (he:encL (mix s p (byteAt s p % 32) 1)=[byteAt s p,byteAt s (p+1)]):charAt s p=2:=by
 have hl:=leadW2 ⟨h1,h2⟩
 have hb:=byteAt_range s (p+1)
 have hm:mix s p (byteAt s p % 32) 1=byteAt s p % 32 * 64+byteAt s (p+1) % 64:=rfl
 rw [hm] at he
 have hr:128≤byteAt s p % 32 * 64+byteAt s (p+1) % 64:=by
  rcases Int.lt_or_le (byteAt s p % 32 * 64+byteAt s (p+1) % 64) 128 with h | h
  ·rw [enc1 h] at he;simp at he
  ·exact h
 rw [enc2 hr (by omega)] at he
 simp only [List.cons.injEq,and_true] at he
 have hc:conts s p (byteAt s p-192) 1=some (64 * (byteAt s p-192)+byteAt s (p+1)-128):=conts_yes (k:=0) rfl (by show 128≤byteAt s (p+1);omega) (by show byteAt s (p+1)<192;omega)
 rw [charAt_Wof hl (by omega) hs hc,if_neg (by rw [outside_no (by omega) (by omega) (by omega)];simp)]
theorem two_no {s:ByteArray} {p:Nat} (h1:192≤byteAt s p) (h2:byteAt s p<224) (hs:p+2≤s.size) (he:encL (mix s p (byteAt s p % 32) 1)≠[byteAt s p,byteAt s (p+1)]):charAt s p=0:=by
 have hl:=leadW2 ⟨h1,h2⟩
 have hb:=byteAt_range s (p+1)
 have hm:mix s p (byteAt s p % 32) 1=byteAt s p % 32 * 64+byteAt s (p+1) % 64:=rfl
 rw [hm] at he
 by_cases hc:128≤byteAt s (p+1)∧byteAt s (p+1)<192
 ·have hcs:conts s p (byteAt s p-192) 1=some (64 * (byteAt s p-192)+byteAt s (p+1)-128):=conts_yes (k:=0) rfl hc.1 hc.2
  rw [charAt_Wof hl (by omega) hs hcs,if_pos]
  refine outside_yes (.inl ?_)
  rcases Int.lt_or_le (byteAt s p % 32 * 64+byteAt s (p+1) % 64) 128 with h | h
  ·omega
  ·exfalso
   apply he
   rw [enc2 h (by omega)]
   simp only [List.cons.injEq,and_true]
   omega
 ·exact charAt_Wcont (k:=1) hl (by omega) (by omega) (conts_no (k:=0) rfl (by show byteAt s (p+1)<128∨192≤byteAt s (p+1);omega))
theorem three_mix {s:ByteArray} {p:Nat}:mix s p (byteAt s p % 16) 2=(byteAt s p % 16 * 64+byteAt s (p+1) % 64) * 64+byteAt s (p+2) % 64:=rfl
theorem three_yes {s:ByteArray} {p:Nat} (h1:224≤byteAt s p) (h2:byteAt s p<240) (hs:p+3≤s.size) (hr:isChar (mix s p (byteAt s p % 16) 2)) (he:encL (mix s p (byteAt s p % 16) 2)=[byteAt s p,byteAt s (p+1),byteAt s (p+2)]):charAt s p=3:=by
 have hl:=leadW3 ⟨h1,h2⟩
 have hb:=byteAt_range s (p+1)
 have hb2:=byteAt_range s (p+2)
 rw [three_mix] at he hr
 obtain ⟨hr1,hr2,hr3⟩:=hr
 generalize hR:(byteAt s p % 16 * 64+byteAt s (p+1) % 64) * 64+byteAt s (p+2) % 64=R at *
 have hlo:2048≤R:=by
  rcases Int.lt_or_le R 2048 with h | h
  ·rcases Int.lt_or_le R 128 with g | g
   ·rw [enc1 g] at he;simp at he
   ·rw [enc2 g h] at he;simp at he
  ·exact h
 rw [enc3 hlo (by omega)] at he
 simp only [List.cons.injEq,and_true] at he
 have hc1:conts s p (byteAt s p-224) 1=some (64 * (byteAt s p-224)+byteAt s (p+1)-128):=conts_yes (k:=0) rfl (by show 128≤byteAt s (p+1);omega) (by show byteAt s (p+1)<192;omega)
 have hc:conts s p (byteAt s p-224) 2=some (64 * (64 * (byteAt s p-224)+byteAt s (p+1)-128)+byteAt s (p+2)-128):=conts_yes (k:=1) hc1 (by show 128≤byteAt s (p+2);omega) (by show byteAt s (p+2)<192;omega)
 rw [charAt_Wof hl (by omega) hs hc,if_neg (by rw [outside_no (by omega) (by omega) (by omega)];simp)]
theorem three_no {s:ByteArray} {p:Nat} (h1:224≤byteAt s p) (h2:byteAt s p<240) (hs:p+3≤s.size) (he:¬ (isChar (mix s p (byteAt s p % 16) 2)∧encL (mix s p (byteAt s p % 16) 2)=[byteAt s p,byteAt s (p+1),byteAt s (p+2)])):charAt s p=0:=by
 have hl:=leadW3 ⟨h1,h2⟩
 have hb:=byteAt_range s (p+1)
 have hb2:=byteAt_range s (p+2)
 rw [three_mix] at he
 by_cases hc:128≤byteAt s (p+1)∧byteAt s (p+1)<192
 ·have hc1:conts s p (byteAt s p-224) 1=some (64 * (byteAt s p-224)+byteAt s (p+1)-128):=conts_yes (k:=0) rfl hc.1 hc.2
  by_cases hd:128≤byteAt s (p+2)∧byteAt s (p+2)<192
  ·have hcs:conts s p (byteAt s p-224) 2=some (64 * (64 * (byteAt s p-224)+byteAt s (p+1)-128)+byteAt s (p+2)-128):=conts_yes (k:=1) hc1 hd.1 hd.2
   rw [charAt_Wof hl (by omega) hs hcs,if_pos]
   apply outside_yes
   generalize hR:(byteAt s p % 16 * 64+byteAt s (p+1) % 64) * 64+byteAt s (p+2) % 64=R at *
   have hRR:64 * (64 * (byteAt s p-224)+byteAt s (p+1)-128)+byteAt s (p+2)-128=R:=by omega
   rw [hRR]
   rcases Int.lt_or_le R 2048 with h | h
   ·exact .inl h
   ·rcases Int.lt_or_le 1114111 R with g | g
    ·exact .inr (.inl g)
    ·refine .inr (.inr ?_)
     rcases Int.lt_or_le R 55296 with k | k
     ·exfalso
      refine he ⟨⟨by omega,by omega,.inl k⟩,?_⟩
      rw [enc3 h (by omega)]
      simp only [List.cons.injEq,and_true]
      omega
     ·rcases Int.lt_or_le 57343 R with m | m
      ·exfalso
       refine he ⟨⟨by omega,by omega,.inr m⟩,?_⟩
       rw [enc3 h (by omega)]
       simp only [List.cons.injEq,and_true]
       omega
      ·exact ⟨k,by omega⟩
  ·exact charAt_Wcont (k:=2) hl (by omega) (by omega) (conts_no (k:=1) hc1 (by show byteAt s (p+2)<128∨192≤byteAt s (p+2);omega))
 ·exact charAt_Wcont (k:=1) hl (by omega) (by omega) (conts_no (k:=0) rfl (by show byteAt s (p+1)<128∨192≤byteAt s (p+1);omega))
theorem four_mix {s:ByteArray} {p:Nat}:mix s p (byteAt s p % 8) 3=((byteAt s p % 8 * 64+byteAt s (p+1) % 64) * 64+byteAt s (p+2) % 64) * 64+byteAt s (p+3) % 64:=rfl
theorem four_yes {s:ByteArray} {p:Nat} (h1:240≤byteAt s p) (hs:p+4≤s.size) (hr:isChar (mix s p (byteAt s p % 8) 3)) (he:encL (mix s p (byteAt s p % 8) 3)=[byteAt s p,byteAt s (p+1),byteAt s (p+2),byteAt s (p+3)]):charAt s p=4:=by
 have hb0:=byteAt_range s p
 have hb:=byteAt_range s (p+1)
 have hb2:=byteAt_range s (p+2)
 have hb3:=byteAt_range s (p+3)
 rw [four_mix] at he hr
 obtain ⟨hr1,hr2,hr3⟩:=hr
 generalize hR:((byteAt s p % 8 * 64+byteAt s (p+1) % 64) * 64+byteAt s (p+2) % 64) * 64+byteAt s (p+3) % 64=R at *
 have hlo:65536≤R:=by
  rcases Int.lt_or_le R 65536 with h | h
  ·rcases Int.lt_or_le R 2048 with k | k
   ·rcases Int.lt_or_le R 128 with g | g
    ·rw [enc1 g] at he;simp at he
    ·rw [enc2 g k] at he;simp at he
   ·rw [enc3 k h] at he;simp at he
  ·exact h
 rw [enc4 hlo] at he
 simp only [List.cons.injEq,and_true] at he
 have h2:byteAt s p<248:=by omega
 have hl:=leadW4 ⟨h1,h2⟩
 have hc1:conts s p (byteAt s p-240) 1=some (64 * (byteAt s p-240)+byteAt s (p+1)-128):=conts_yes (k:=0) rfl (by show 128≤byteAt s (p+1);omega) (by show byteAt s (p+1)<192;omega)
 have hc2:conts s p (byteAt s p-240) 2=some (64 * (64 * (byteAt s p-240)+byteAt s (p+1)-128)+byteAt s (p+2)-128):=conts_yes (k:=1) hc1 (by show 128≤byteAt s (p+2);omega) (by show byteAt s (p+2)<192;omega)
 have hc:conts s p (byteAt s p-240) 3=some (64 * (64 * (64 * (byteAt s p-240)+byteAt s (p+1)-128)+byteAt s (p+2)-128)+byteAt s (p+3)-128):=conts_yes (k:=2) hc2 (by show 128≤byteAt s (p+3);omega) (by show byteAt s (p+3)<192;omega)
 rw [charAt_Wof hl (by omega) hs hc,if_neg (by rw [outside_no (by omega) (by omega) (by omega)];simp)]
theorem four_no {s:ByteArray} {p:Nat} (h1:240≤byteAt s p) (hs:p+4≤s.size) (he:¬ (isChar (mix s p (byteAt s p % 8) 3)∧encL (mix s p (byteAt s p % 8) 3)=[byteAt s p,byteAt s (p+1),byteAt s (p+2),byteAt s (p+3)])):charAt s p=0:=by
 have hb0:=byteAt_range s p
 have hb:=byteAt_range s (p+1)
 have hb2:=byteAt_range s (p+2)
 have hb3:=byteAt_range s (p+3)
 by_cases h2:248≤byteAt s p
 ·exact charAt_W0 (.inr h2)
 have hl:=leadW4 ⟨h1,by omega⟩
 rw [four_mix] at he
 by_cases hc:128≤byteAt s (p+1)∧byteAt s (p+1)<192
 ·have hc1:conts s p (byteAt s p-240) 1=some (64 * (byteAt s p-240)+byteAt s (p+1)-128):=conts_yes (k:=0) rfl hc.1 hc.2
  by_cases hd:128≤byteAt s (p+2)∧byteAt s (p+2)<192
  ·have hc2:conts s p (byteAt s p-240) 2=some (64 * (64 * (byteAt s p-240)+byteAt s (p+1)-128)+byteAt s (p+2)-128):=conts_yes (k:=1) hc1 hd.1 hd.2
   by_cases hf:128≤byteAt s (p+3)∧byteAt s (p+3)<192
   ·have hcs:conts s p (byteAt s p-240) 3=some (64 * (64 * (64 * (byteAt s p-240)+byteAt s (p+1)-128)+byteAt s (p+2)-128)+byteAt s (p+3)-128):=conts_yes (k:=2) hc2 hf.1 hf.2
    rw [charAt_Wof hl (by omega) hs hcs,if_pos]
    apply outside_yes
    generalize hR:((byteAt s p % 8 * 64+byteAt s (p+1) % 64) * 64+byteAt s (p+2) % 64) * 64+byteAt s (p+3) % 64=R at *
    have hRR:64 * (64 * (64 * (byteAt s p-240)+byteAt s (p+1)-128)+byteAt s (p+2)-128)+byteAt s (p+3)-128=R:=by omega
    rw [hRR]
    rcases Int.lt_or_le R 65536 with h | h
    ·exact .inl h
    ·rcases Int.lt_or_le 1114111 R with g | g
     ·exact .inr (.inl g)
     ·exfalso
      refine he ⟨⟨by omega,by omega,.inr (by omega)⟩,?_⟩
      rw [enc4 h]
      simp only [List.cons.injEq,and_true]
      omega
   ·exact charAt_Wcont (k:=3) hl (by omega) (by omega) (conts_no (k:=2) hc2 (by show byteAt s (p+3)<128∨192≤byteAt s (p+3);omega))
  ·exact charAt_Wcont (k:=2) hl (by omega) (by omega) (conts_no (k:=1) hc1 (by show byteAt s (p+2)<128∨192≤byteAt s (p+2);omega))
 ·exact charAt_Wcont (k:=1) hl (by omega) (by omega) (conts_no (k:=0) rfl (by show byteAt s (p+1)<128∨192≤byteAt s (p+1);omega))
theorem one_char {s:ByteArray} {p:Nat} (h:byteAt s p<128) (hp:p<s.size):charAt s p=1:=by
 have hb:=byteAt_range s p
 rw [charAt_Wof (leadW1 h) (by omega) (by omega) (show conts s p (byteAt s p) (1-1)=some (byteAt s p) from rfl),if_neg (by rw [outside_no (by omega) (by omega) (by omega)];simp)]
theorem charAt_le {s:ByteArray} {p:Nat} (h:charAt s p≠0):p+charAt s p≤s.size:=by
 unfold charAt at h ⊢
 split at h
 ·exact absurd rfl h
 ·rename_i hn
  rw [if_neg hn]
  split at h
  ·exact absurd rfl h
  ·split at h
   ·exact absurd rfl h
   ·rename_i ho
    simp only [if_neg ho]
    omega
def ints (l:List UInt8):List Int:=l.map fun c=>(c.toNat:Int)
theorem ints_inj {a b:List UInt8} (h:ints a=ints b):a=b:=by
 unfold ints at h
 exact (List.map_inj_right (fun x y e=>UInt8.toNat_inj.1 (Int.ofNat_inj.1 e))).1 h
theorem ints_nums {l:List Int} (h:∀ x∈l,0≤x∧x≤255):ints (strOfNums l).data.toList=l:=by
 unfold ints strOfNums
 simp only [List.map_map]
 conv=>rhs;rw [← List.map_id l]
 refine List.map_congr_left fun x hx=>?_
 have:=h x hx
 simp
 omega
theorem ints_extract {s:ByteArray} {p n:Nat} (h:p+n≤s.size):ints (s.extract p (p+n)).data.toList=(List.range n).map fun j=>byteAt s (p+j):=by
 unfold ints
 have hl:(s.extract p (p+n)).data.toList=(s.data.toList.drop p).take n:=by
  rw [ByteArray.data_extract,Array.toList_extract]
  simp [List.extract_eq_take_drop]
 rw [hl]
 apply List.ext_getElem?
 intro j
 rw [List.getElem?_map,List.getElem?_map,List.getElem?_take]
 have hs:s.data.toList.length=s.size:=by simp
 by_cases hj:j<n
 ·rw [if_pos hj,List.getElem?_drop,List.getElem?_range hj]
  have:p+j<s.data.toList.length:=by omega
  rw [List.getElem?_eq_getElem this]
  simp only [Option.map_some]
  congr 1
  unfold byteAt
  rw [List.getElem?_eq_getElem this]
  rfl
 ·rw [if_neg hj,List.getElem?_eq_none (by simpa using hj)]
  rfl
theorem encL_bytes {r:Int} (h0:0≤r) (h1:r≤2097151):∀ x∈encL r,0≤x∧x≤255:=by
 intro x hx
 unfold encL at hx
 split at hx
 ·simp at hx;omega
 ·split at hx
  ·simp at hx;omega
  ·split at hx
   ·simp at hx;omega
   ·simp at hx;omega
theorem enc_eq {s:ByteArray} {p n:Nat} {r:Int} (h0:0≤r) (h1:r≤2097151) (h:p+n≤s.size):(strOfNums (encL r)).toList=(s.extract p (p+n)).toList↔encL r=(List.range n).map fun j=>byteAt s (p+j):=by
 rw [ByteArray.toList_eq,ByteArray.toList_eq]
 constructor
 ·intro e
  rw [← ints_extract h,← e,ints_nums (encL_bytes h0 h1)]
 ·intro e
  apply ints_inj
  rw [ints_extract h,ints_nums (encL_bytes h0 h1),e]
end Go.Proofs.YtniljgkkcnekgaaGreatDoor

/- The reference's UTF-8 (datakitref03): Encode, Decode, Boundaries, Valid: what they compute. -/
namespace Go.Proofs.YtniljgkkcnekgaaGreatDoor
open Go.RowKit
theorem wraps_i64 (n:Int) (h₀:0≤n) (h₁:n<2 ^ 62):IntKind.i64.wrap n=n:=by rw [IntKind.wrap_i64];omega
theorem i64_and63 (x:Int) (h₀:0≤x) (h₁:x<4611686018427387904):bits .and .i64 x 63=x % 64:=bits_mask .i64 62 (by decide) wraps_i64 6 (by decide) x h₀ h₁
theorem i64_and31 (x:Int) (h₀:0≤x) (h₁:x<4611686018427387904):bits .and .i64 x 31=x % 32:=bits_mask .i64 62 (by decide) wraps_i64 5 (by decide) x h₀ h₁
theorem i64_and15 (x:Int) (h₀:0≤x) (h₁:x<4611686018427387904):bits .and .i64 x 15=x % 16:=bits_mask .i64 62 (by decide) wraps_i64 4 (by decide) x h₀ h₁
theorem i64_and7 (x:Int) (h₀:0≤x) (h₁:x<4611686018427387904):bits .and .i64 x 7=x % 8:=bits_mask .i64 62 (by decide) wraps_i64 3 (by decide) x h₀ h₁
theorem i64_or128 (y:Int) (h₀:0≤y) (h₁:y<64):bits .or .i64 128 y=128+y:=bits_join .i64 62 (by decide) wraps_i64 6 128 y (by decide) (by decide) (by decide) h₀ h₁ (by omega)
theorem i64_or192 (y:Int) (h₀:0≤y) (h₁:y<32):bits .or .i64 192 y=192+y:=bits_join .i64 62 (by decide) wraps_i64 5 192 y (by decide) (by decide) (by decide) h₀ h₁ (by omega)
theorem i64_or224 (y:Int) (h₀:0≤y) (h₁:y<16):bits .or .i64 224 y=224+y:=bits_join .i64 62 (by decide) wraps_i64 4 224 y (by decide) (by decide) (by decide) h₀ h₁ (by omega)
theorem i64_or240 (y:Int) (h₀:0≤y) (h₁:y<8):bits .or .i64 240 y=240+y:=bits_join .i64 62 (by decide) wraps_i64 3 240 y (by decide) (by decide) (by decide) h₀ h₁ (by omega)
theorem i64_or6 (x y:Int) (hx₀:0≤x) (hx₁:x<72057594037927936) (h₀:0≤y) (h₁:y<64):bits .or .i64 (x * 64) y=x * 64+y:=bits_join .i64 62 (by decide) wraps_i64 6 (x * 64) y (by omega) (by omega) (by omega) h₀ h₁ (by omega)
def EncR (r:Int) (w:World) (e:Ending) (w':World):Prop:=∃ (s:ByteArray) (k:Int),e=.returned (.tuple #[.string s,.int .i64 k])∧(charB r=true→k=0∧s=strOfNums (encL r))∧(charB r=false→k=2)∧Below w.heap.size w w'
set_option maxHeartbeats 800000 in
theorem enc_ex (r:Int) (w:World):Calls Tryz.prog 162 #[.int .i64 r] w (EncR r w):=by
 cases hb:charB r
 ·have HB:=Hd hb
  go_enter Tryz.func162,Tryz.ntmps162
  go_wp2_with (go_at_call 172;refine (char_any _ _).mono ?_;rintro e w' ⟨rfl,rfl⟩)
  go_ret2
  exact ⟨_,_,rfl,fun h=>(by rw [HB.out] at h;cases h),fun _=>rfl,Below.refl _ _⟩
 ·have HB:=Hd hb
  have hr:0≤r∧r≤1114111:=by
   unfold charB at hb
   simp only [Bool.and_eq_true,decide_eq_true_eq] at hb
   omega
  obtain ⟨hr0,hr1⟩:=hr
  have HE:=Hd (show encL r=if r<128 then [r] else if r<2048 then [192+r / 64,128+r % 64] else if r<65536 then [224+r / 4096,128+r / 64 % 64,128+r % 64] else [240+r / 262144,128+r / 4096 % 64,128+r / 64 % 64,128+r % 64] from rfl)
  have hcase:r<128∨(¬ r<128∧r<2048)∨(¬ r<128∧¬ r<2048∧r<65536)∨(¬ r<128∧¬ r<2048∧¬ r<65536):=by omega
  rcases hcase with h1 | ⟨h1,h2⟩ | ⟨h1,h2,h3⟩ | ⟨h1,h2,h3⟩
  ·go_enter Tryz.func162,Tryz.ntmps162
   go_wp2_with (go_at_call 172;refine (char_any _ _).mono ?_;rintro e w' ⟨rfl,rfl⟩)
   go_ret2
   refine ⟨_,_,rfl,fun _=>⟨rfl,?_⟩,fun h=>(by rw [HB.out] at h;cases h),(Below.refl _ _).alloc (Nat.le_refl _) _⟩
   rw [HE.out,if_pos h1]
  ·have f1:=i64_or192 (r / 64) (by omega) (by omega)
   have f2:=i64_and63 r (by omega) (by omega)
   have f3:=i64_or128 (r % 64) (by omega) (by omega)
   go_enter Tryz.func162,Tryz.ntmps162
   go_wp2_with (go_at_call 172;refine (char_any _ _).mono ?_;rintro e w' ⟨rfl,rfl⟩)
   go_ret2
   refine ⟨_,_,rfl,fun _=>⟨rfl,?_⟩,fun h=>(by rw [HB.out] at h;cases h),(Below.refl _ _).alloc (Nat.le_refl _) _⟩
   rw [HE.out,if_neg (by omega),if_pos h2]
  ·have f1:=i64_or224 (r / 4096) (by omega) (by omega)
   have f2:=i64_and63 r (by omega) (by omega)
   have f3:=i64_or128 (r % 64) (by omega) (by omega)
   have f4:=i64_and63 (r / 64) (by omega) (by omega)
   have f5:=i64_or128 (r / 64 % 64) (by omega) (by omega)
   go_enter Tryz.func162,Tryz.ntmps162
   go_wp2_with (go_at_call 172;refine (char_any _ _).mono ?_;rintro e w' ⟨rfl,rfl⟩)
   go_ret2
   refine ⟨_,_,rfl,fun _=>⟨rfl,?_⟩,fun h=>(by rw [HB.out] at h;cases h),(Below.refl _ _).alloc (Nat.le_refl _) _⟩
   rw [HE.out,if_neg (by omega),if_neg (by omega),if_pos h3]
  ·have f1:=i64_or240 (r / 262144) (by omega) (by omega)
   have f2:=i64_and63 r (by omega) (by omega)
   have f3:=i64_or128 (r % 64) (by omega) (by omega)
   have f4:=i64_and63 (r / 64) (by omega) (by omega)
   have f5:=i64_or128 (r / 64 % 64) (by omega) (by omega)
   have f6:=i64_and63 (r / 4096) (by omega) (by omega)
   have f7:=i64_or128 (r / 4096 % 64) (by omega) (by omega)
   go_enter Tryz.func162,Tryz.ntmps162
   go_wp2_with (go_at_call 172;refine (char_any _ _).mono ?_;rintro e w' ⟨rfl,rfl⟩)
   go_ret2
   refine ⟨_,_,rfl,fun _=>⟨rfl,?_⟩,fun h=>(by rw [HB.out] at h;cases h),(Below.refl _ _).alloc (Nat.le_refl _) _⟩
   rw [HE.out,if_neg (by omega),if_neg (by omega),if_neg (by omega)]
def DecR (s:ByteArray) (p:Nat) (w:World) (e:Ending) (w':World):Prop:=∃ r:Int,e=.returned (.tuple #[.int .i64 r,.int .i64 (charAt s p)])∧Below w.heap.size w w'
theorem charB_iff (r:Int):charB r=true↔isChar r:=by
 unfold charB isChar
 simp only [Bool.and_eq_true,Bool.or_eq_true,decide_eq_true_eq]
 omega
theorem yes2 {s:ByteArray} {p:Nat} (h1:192≤byteAt s p) (h2:byteAt s p<224) (hs:p+2≤s.size) (he:encL (mix s p (byteAt s p % 32) 1)=(List.range 2).map fun j=>byteAt s (p+j)):charAt s p=2:=two_yes h1 h2 hs he
theorem no2 {s:ByteArray} {p:Nat} (h1:192≤byteAt s p) (h2:byteAt s p<224) (hs:p+2≤s.size) (he:¬ (isChar (mix s p (byteAt s p % 32) 1)∧encL (mix s p (byteAt s p % 32) 1)=(List.range 2).map fun j=>byteAt s (p+j))):charAt s p=0:=by
 refine two_no h1 h2 hs fun e=>he ⟨?_,e⟩
 have hm:mix s p (byteAt s p % 32) 1=byteAt s p % 32 * 64+byteAt s (p+1) % 64:=rfl
 rw [hm]
 exact ⟨by omega,by omega,.inl (by omega)⟩
theorem yes3 {s:ByteArray} {p:Nat} (h1:224≤byteAt s p) (h2:byteAt s p<240) (hs:p+3≤s.size) (hr:isChar (mix s p (byteAt s p % 16) 2)) (he:encL (mix s p (byteAt s p % 16) 2)=(List.range 3).map fun j=>byteAt s (p+j)):charAt s p=3:=three_yes h1 h2 hs hr he
theorem no3 {s:ByteArray} {p:Nat} (h1:224≤byteAt s p) (h2:byteAt s p<240) (hs:p+3≤s.size) (he:¬ (isChar (mix s p (byteAt s p % 16) 2)∧encL (mix s p (byteAt s p % 16) 2)=(List.range 3).map fun j=>byteAt s (p+j))):charAt s p=0:=three_no h1 h2 hs he
theorem yes4 {s:ByteArray} {p:Nat} (h1:240≤byteAt s p) (hs:p+4≤s.size) (hr:isChar (mix s p (byteAt s p % 8) 3)) (he:encL (mix s p (byteAt s p % 8) 3)=(List.range 4).map fun j=>byteAt s (p+j)):charAt s p=4:=four_yes h1 hs hr he
theorem no4 {s:ByteArray} {p:Nat} (h1:240≤byteAt s p) (hs:p+4≤s.size) (he:¬ (isChar (mix s p (byteAt s p % 8) 3)∧encL (mix s p (byteAt s p % 8) 3)=(List.range 4).map fun j=>byteAt s (p+j))):charAt s p=0:=four_no h1 hs he
theorem charAt_short2 {s:ByteArray} {p:Nat} (h1:192≤byteAt s p) (h2:byteAt s p<224) (hs:s.size<p+2):charAt s p=0:=charAt_Wshort (leadW2 ⟨h1,h2⟩) (by omega) hs
theorem charAt_short3 {s:ByteArray} {p:Nat} (h1:224≤byteAt s p) (h2:byteAt s p<240) (hs:s.size<p+3):charAt s p=0:=charAt_Wshort (leadW3 ⟨h1,h2⟩) (by omega) hs
theorem charAt_short4 {s:ByteArray} {p:Nat} (h1:240≤byteAt s p) (hs:s.size<p+4):charAt s p=0:=by
 by_cases h2:248≤byteAt s p
 ·exact charAt_W0 (.inr h2)
 ·exact charAt_Wshort (leadW4 ⟨h1,by omega⟩) (by omega) hs
set_option maxRecDepth 100000 in
set_option maxHeartbeats 3200000 in
theorem dec_ex (s:ByteArray) (p:Nat) (w:World) (hs:s.size≤maxLen) (hp:p<s.size):Calls Tryz.prog 144 #[.string s,.int .i64 p] w (DecR s p w):=by
 unfold maxLen at hs
 have hb0:=byteAt_eq s p hp
 obtain ⟨hb1,hb2⟩:=byteAt_range s p
 have hcls:(192≤byteAt s p∧byteAt s p<224)∨(224≤byteAt s p∧byteAt s p<240)∨(240≤byteAt s p)∨(byteAt s p<192):=by omega
 rcases hcls with ⟨h21,h22⟩ | ⟨h21,h22⟩ | h21 | h21
 ·skip
  have f1:=i64_and31 (byteAt s p) (by omega) (by omega)
  by_cases hsz:p+2≤s.size
  ·have hsz':¬ (s.size:Int)-(p:Int)<2:=by omega
   go_enter Tryz.func144,Tryz.ntmps144
   go_wp2_with fail
   go_simp
   go_loop [8,9] (fun r k=>∃ (d:Int) (n:Nat),n+1≤2∧r=.int .i64 d∧k=.int .i64 ((n:Int)+1)∧0≤d∧((n=0∧d<32)∨(n=1∧d<2048)∨(n=2∧d<131072)∨(n=3∧d<8388608))∧Hid (mix s p (byteAt s p % 32) n=d)) (fun _ k=>2-(intOf k).toNat)
   case atStart=>exact ⟨_,0,by omega,rfl,by simp,by omega,by omega,Hd rfl⟩
   case round =>
    obtain ⟨d,n,hn,rfl,rfl,hd0,hd1,HM⟩:=hrel
    have hd9:d<72057594037927936:=by omega
    by_cases hlt:n+1<2
    ·have hlt2:p+(n+1)<s.size:=by omega
     have hb3:=byteAt_eq s (p+(n+1)) hlt2
     obtain ⟨hb4,hb5⟩:=byteAt_range s (p+(n+1))
     have f2:=i64_and63 (byteAt s (p+(n+1))) (by omega) (by omega)
     have f3:=i64_or6 d (byteAt s (p+(n+1)) % 64) (by omega) (by omega) (by omega) (by omega)
     have HM2:=Hd (show mix s p (byteAt s p % 32) (n+1)=d * 64+byteAt s (p+(n+1)) % 64 by simp only [mix];rw [HM.out])
     go_wp2_with fail
     go_round
     case rel=>exact ⟨_,n+1,by omega,rfl,by go_num,by omega,by omega,HM2⟩
     case measure=>simp [intOf];omega
    ·obtain rfl:n=1:=by omega
     have hd8:d≤2097151:=by omega
     have HEQ:=Hd (enc_eq (s:=s) (p:=p) (n:=2) hd0 hd8 hsz)
     clear hlt
     cases hcb:charB d with
     | false =>
       have HX:=Hd (show charAt s p=0 from no2 h21 h22 hsz (fun h=>by rw [HM.out] at h;rw [(charB_iff d).2 h.1] at hcb;cases hcb))
       have HCB:=Hd hcb
       clear hcb
       go_wp2_with fail
       refine (enc_ex d _).mono ?_
       rintro e w1 ⟨t,k,rfl,_,g2,hb⟩
       obtain rfl:k=2:=g2 HCB.out
       have HB:=Hd hb
       clear g2 hb
       go_wp2_with fail
       all_goals
        go_ret2
        exact ⟨0,by rw [HX.out];rfl,HB.out⟩
     | true =>
       have HCB:=Hd hcb
       clear hcb
       go_wp2_with fail
       refine (enc_ex d _).mono ?_
       rintro e w1 ⟨t,k,rfl,g1,_,hb⟩
       obtain ⟨rfl,ht⟩:=g1 HCB.out
       have HT:=Hd ht
       have HB:=Hd hb
       clear g1 hb ht
       by_cases hq:t.toList=(s.extract p (p+2)).toList
       ·have q1:(t.toList==(s.extract p (p+2)).toList)=true:=by simpa using hq
        have HX:=Hd (show charAt s p=2 by
         rw [HT.out] at hq
         have he:=HEQ.out.1 hq
         rw [← HM.out] at he
         exact yes2 h21 h22 hsz he)
        clear hq
        go_wp2_with fail
        all_goals
         go_ret2
         exact ⟨_,by rw [HX.out];rfl,HB.out⟩
       ·have q1:(t.toList==(s.extract p (p+2)).toList)=false:=by simpa using hq
        have HX:=Hd (show charAt s p=0 from no2 h21 h22 hsz (fun h=>hq (by
         rw [HT.out]
         refine HEQ.out.2 ?_
         rw [← HM.out]
         exact h.2)))
        clear hq
        go_wp2_with fail
        all_goals
         go_ret2
         exact ⟨0,by rw [HX.out];rfl,HB.out⟩
  ·have hsz':(s.size:Int)-(p:Int)<2:=by omega
   have HX:=Hd (show charAt s p=0 from charAt_short2 h21 h22 (by omega))
   go_enter Tryz.func144,Tryz.ntmps144
   go_wp2_with fail
   go_ret2
   exact ⟨0,by rw [HX.out];rfl,Below.refl _ _⟩
 ·skip
  have f1:=i64_and15 (byteAt s p) (by omega) (by omega)
  by_cases hsz:p+3≤s.size
  ·have hsz':¬ (s.size:Int)-(p:Int)<3:=by omega
   go_enter Tryz.func144,Tryz.ntmps144
   go_wp2_with fail
   go_simp
   go_loop [8,9] (fun r k=>∃ (d:Int) (n:Nat),n+1≤3∧r=.int .i64 d∧k=.int .i64 ((n:Int)+1)∧0≤d∧((n=0∧d<16)∨(n=1∧d<1024)∨(n=2∧d<65536)∨(n=3∧d<4194304))∧Hid (mix s p (byteAt s p % 16) n=d)) (fun _ k=>3-(intOf k).toNat)
   case atStart=>exact ⟨_,0,by omega,rfl,by simp,by omega,by omega,Hd rfl⟩
   case round =>
    obtain ⟨d,n,hn,rfl,rfl,hd0,hd1,HM⟩:=hrel
    have hd9:d<72057594037927936:=by omega
    by_cases hlt:n+1<3
    ·have hlt2:p+(n+1)<s.size:=by omega
     have hb3:=byteAt_eq s (p+(n+1)) hlt2
     obtain ⟨hb4,hb5⟩:=byteAt_range s (p+(n+1))
     have f2:=i64_and63 (byteAt s (p+(n+1))) (by omega) (by omega)
     have f3:=i64_or6 d (byteAt s (p+(n+1)) % 64) (by omega) (by omega) (by omega) (by omega)
     have HM2:=Hd (show mix s p (byteAt s p % 16) (n+1)=d * 64+byteAt s (p+(n+1)) % 64 by simp only [mix];rw [HM.out])
     go_wp2_with fail
     go_round
     case rel=>exact ⟨_,n+1,by omega,rfl,by go_num,by omega,by omega,HM2⟩
     case measure=>simp [intOf];omega
    ·obtain rfl:n=2:=by omega
     have hd8:d≤2097151:=by omega
     have HEQ:=Hd (enc_eq (s:=s) (p:=p) (n:=3) hd0 hd8 hsz)
     clear hlt
     cases hcb:charB d with
     | false =>
       have HX:=Hd (show charAt s p=0 from no3 h21 h22 hsz (fun h=>by rw [HM.out] at h;rw [(charB_iff d).2 h.1] at hcb;cases hcb))
       have HCB:=Hd hcb
       clear hcb
       go_wp2_with fail
       refine (enc_ex d _).mono ?_
       rintro e w1 ⟨t,k,rfl,_,g2,hb⟩
       obtain rfl:k=2:=g2 HCB.out
       have HB:=Hd hb
       clear g2 hb
       go_wp2_with fail
       all_goals
        go_ret2
        exact ⟨0,by rw [HX.out];rfl,HB.out⟩
     | true =>
       have HCB:=Hd hcb
       clear hcb
       go_wp2_with fail
       refine (enc_ex d _).mono ?_
       rintro e w1 ⟨t,k,rfl,g1,_,hb⟩
       obtain ⟨rfl,ht⟩:=g1 HCB.out
       have HT:=Hd ht
       have HB:=Hd hb
       clear g1 hb ht
       by_cases hq:t.toList=(s.extract p (p+3)).toList
       ·have q1:(t.toList==(s.extract p (p+3)).toList)=true:=by simpa using hq
        have HX:=Hd (show charAt s p=3 by
         rw [HT.out] at hq
         have he:=HEQ.out.1 hq
         rw [← HM.out] at he
         exact yes3 h21 h22 hsz (by rw [HM.out];exact (charB_iff d).1 HCB.out) he)
        clear hq
        go_wp2_with fail
        all_goals
         go_ret2
         exact ⟨_,by rw [HX.out];rfl,HB.out⟩
       ·have q1:(t.toList==(s.extract p (p+3)).toList)=false:=by simpa using hq
        have HX:=Hd (show charAt s p=0 from no3 h21 h22 hsz (fun h=>hq (by
         rw [HT.out]
         refine HEQ.out.2 ?_
         rw [← HM.out]
         exact h.2)))
        clear hq
        go_wp2_with fail
        all_goals
         go_ret2
         exact ⟨0,by rw [HX.out];rfl,HB.out⟩
  ·have hsz':(s.size:Int)-(p:Int)<3:=by omega
   have HX:=Hd (show charAt s p=0 from charAt_short3 h21 h22 (by omega))
   go_enter Tryz.func144,Tryz.ntmps144
   go_wp2_with fail
   go_ret2
   exact ⟨0,by rw [HX.out];rfl,Below.refl _ _⟩
 ·skip
  have f1:=i64_and7 (byteAt s p) (by omega) (by omega)
  by_cases hsz:p+4≤s.size
  ·have hsz':¬ (s.size:Int)-(p:Int)<4:=by omega
   go_enter Tryz.func144,Tryz.ntmps144
   go_wp2_with fail
   go_simp
   go_loop [8,9] (fun r k=>∃ (d:Int) (n:Nat),n+1≤4∧r=.int .i64 d∧k=.int .i64 ((n:Int)+1)∧0≤d∧((n=0∧d<8)∨(n=1∧d<512)∨(n=2∧d<32768)∨(n=3∧d<2097152))∧Hid (mix s p (byteAt s p % 8) n=d)) (fun _ k=>4-(intOf k).toNat)
   case atStart=>exact ⟨_,0,by omega,rfl,by simp,by omega,by omega,Hd rfl⟩
   case round =>
    obtain ⟨d,n,hn,rfl,rfl,hd0,hd1,HM⟩:=hrel
    have hd9:d<72057594037927936:=by omega
    by_cases hlt:n+1<4
    ·have hlt2:p+(n+1)<s.size:=by omega
     have hb3:=byteAt_eq s (p+(n+1)) hlt2
     obtain ⟨hb4,hb5⟩:=byteAt_range s (p+(n+1))
     have f2:=i64_and63 (byteAt s (p+(n+1))) (by omega) (by omega)
     have f3:=i64_or6 d (byteAt s (p+(n+1)) % 64) (by omega) (by omega) (by omega) (by omega)
     have HM2:=Hd (show mix s p (byteAt s p % 8) (n+1)=d * 64+byteAt s (p+(n+1)) % 64 by simp only [mix];rw [HM.out])
     go_wp2_with fail
     go_round
     case rel=>exact ⟨_,n+1,by omega,rfl,by go_num,by omega,by omega,HM2⟩
     case measure=>simp [intOf];omega
    ·obtain rfl:n=3:=by omega
     have hd8:d≤2097151:=by omega
     have HEQ:=Hd (enc_eq (s:=s) (p:=p) (n:=4) hd0 hd8 hsz)
     clear hlt
     cases hcb:charB d with
     | false =>
       have HX:=Hd (show charAt s p=0 from no4 h21 hsz (fun h=>by rw [HM.out] at h;rw [(charB_iff d).2 h.1] at hcb;cases hcb))
       have HCB:=Hd hcb
       clear hcb
       go_wp2_with fail
       refine (enc_ex d _).mono ?_
       rintro e w1 ⟨t,k,rfl,_,g2,hb⟩
       obtain rfl:k=2:=g2 HCB.out
       have HB:=Hd hb
       clear g2 hb
       go_wp2_with fail
       all_goals
        go_ret2
        exact ⟨0,by rw [HX.out];rfl,HB.out⟩
     | true =>
       have HCB:=Hd hcb
       clear hcb
       go_wp2_with fail
       refine (enc_ex d _).mono ?_
       rintro e w1 ⟨t,k,rfl,g1,_,hb⟩
       obtain ⟨rfl,ht⟩:=g1 HCB.out
       have HT:=Hd ht
       have HB:=Hd hb
       clear g1 hb ht
       by_cases hq:t.toList=(s.extract p (p+4)).toList
       ·have q1:(t.toList==(s.extract p (p+4)).toList)=true:=by simpa using hq
        have HX:=Hd (show charAt s p=4 by
         rw [HT.out] at hq
         have he:=HEQ.out.1 hq
         rw [← HM.out] at he
         exact yes4 h21 hsz (by rw [HM.out];exact (charB_iff d).1 HCB.out) he)
        clear hq
        go_wp2_with fail
        all_goals
         go_ret2
         exact ⟨_,by rw [HX.out];rfl,HB.out⟩
       ·have q1:(t.toList==(s.extract p (p+4)).toList)=false:=by simpa using hq
        have HX:=Hd (show charAt s p=0 from no4 h21 hsz (fun h=>hq (by
         rw [HT.out]
         refine HEQ.out.2 ?_
         rw [← HM.out]
         exact h.2)))
        clear hq
        go_wp2_with fail
        all_goals
         go_ret2
         exact ⟨0,by rw [HX.out];rfl,HB.out⟩
  ·have hsz':(s.size:Int)-(p:Int)<4:=by omega
   have HX:=Hd (show charAt s p=0 from charAt_short4 h21 (by omega))
   go_enter Tryz.func144,Tryz.ntmps144
   go_wp2_with fail
   go_ret2
   exact ⟨0,by rw [HX.out];rfl,Below.refl _ _⟩
 ·have hcb:charB (byteAt s p)=true:=(charB_iff _).2 ⟨by omega,by omega,.inl (by omega)⟩
  have HCB:=Hd hcb
  have HEQ:=Hd (enc_eq (s:=s) (p:=p) (n:=1) (r:=byteAt s p) (by omega) (by omega) (by omega))
  clear hcb
  have hsz':¬ (s.size:Int)-(p:Int)<1:=by omega
  go_enter Tryz.func144,Tryz.ntmps144
  go_wp2_with fail
  go_simp
  go_loop [8,9] (fun r k=>r=.int .i64 (byteAt s p)∧k=.int .i64 1) (fun _ k=>1-(intOf k).toNat)
  case atStart=>exact ⟨rfl,rfl⟩
  case round =>
   obtain ⟨rfl,rfl⟩:=hrel
   go_wp2_with fail
   refine (enc_ex _ _).mono ?_
   rintro e w1 ⟨t,k,rfl,g1,_,hb⟩
   obtain ⟨rfl,ht⟩:=g1 HCB.out
   have HT:=Hd ht
   have HB:=Hd hb
   clear g1 hb ht
   by_cases h28:byteAt s p<128
   ·have hq:t.toList=(s.extract p (p+1)).toList:=by
     rw [HT.out]
     exact HEQ.out.2 (by rw [enc1 h28];rfl)
    have q1:(t.toList==(s.extract p (p+1)).toList)=true:=by simpa using hq
    have HX:=Hd (one_char h28 hp)
    clear hq
    go_wp2_with fail
    all_goals
     go_ret2
     exact ⟨_,by rw [HX.out];rfl,HB.out⟩
   ·have hq:¬ t.toList=(s.extract p (p+1)).toList:=by
     rw [HT.out]
     intro h
     have:=HEQ.out.1 h
     rw [enc2 (by omega) (by omega)] at this
     simp [List.range_succ] at this
    have q1:(t.toList==(s.extract p (p+1)).toList)=false:=by simpa using hq
    have HX:=Hd (charAt_W0 (s:=s) (p:=p) (.inl ⟨by omega,by omega⟩))
    clear hq
    go_wp2_with fail
    all_goals
     go_ret2
     exact ⟨0,by rw [HX.out];rfl,HB.out⟩
def BndR (s:ByteArray) (w:World) (e:Ending) (w':World):Prop:=∃ (v:Value),e=.returned (.tuple #[v,.bool (validS s)])∧Below w.heap.size w w'
set_option maxRecDepth 100000 in
set_option maxHeartbeats 800000 in
theorem bounds_ex (s:ByteArray) (w:World) (hs:s.size≤1099511627776):Calls Tryz.prog 124 #[.string s] w (BndR s w):=by
 obtain ⟨i0,hi,hz0,hz1,hz2⟩:=info_parts info3
 have hs':s.size≤maxLen:=by unfold maxLen;omega
 go_enter Tryz.func124,Tryz.ntmps124
 go_wp2_with fail
 go_loopw [4,5] (fun v i wr=>∃ (k:Nat) (xs:List Int),k≤s.size∧i=.int .i64 k∧xs.length≤k+1∧wr.ownsRow w.heap.size 3 1 v xs.length (xs.map (.int .i64))∧Hid (okFrom s (s.size-k) k=validS s)∧Below w.heap.size w wr) (fun _ i _=>s.size-(intOf i).toNat)
 case atStart=>exact ⟨0,[0],by omega,rfl,by simp,ownsRow_lit _ _ _,Hd rfl,(Below.refl _ _).alloc (Nat.le_refl _) _⟩
 case round =>
  obtain ⟨k,xs,hk,rfl,hxs,hown,HV,hbel⟩:=hrel
  by_cases hlt:k<s.size
  ·go_wp2_with fail
   refine (dec_ex s k _ hs' hlt).mono ?_
   rintro e w1 ⟨r,rfl,hb⟩
   have hown1:=ownsRow_below hown hb
   have hbel1:=hbel.trans (hb.mono hbel.size)
   clear hown hbel hb
   by_cases hz:charAt s k=0
   ·have HX:=Hd (show validS s=false by rw [← HV.out];exact okFrom_bad s k hlt hz)
    rw [hz]
    clear hz
    go_wp2_with fail
    go_ret2
    exact ⟨_,by rw [HX.out];rfl,hbel1⟩
   ·have hle:=charAt_le hz
    obtain ⟨n,hn⟩:∃ n,charAt s k=n:=⟨_,rfl⟩
    have HX:=Hd (show okFrom s (s.size-(k+n)) (k+n)=validS s by rw [← HV.out];exact (okFrom_step s k n hlt hn (by rw [← hn];exact hz)).symm)
    rw [hn] at hz hle ⊢
    clear hn
    have hn1:((n:Int)==0)=false:=by simp;omega
    go_wp2_with (at_builtin;refine wpList_append_own _ rfl _ _ 27 rfl w.heap.size 3 i0 (.int .i64 0) 1 8 Tryz.underlying27 hi hz0 hz1 hz2 rfl (by decide) _ _ _ rfl (hown1.alloc _) ⟨w1.heap.size,0,none⟩ 1 1 [.int .i64 (k+n)] rfl rfl ?c1 ?c2 ?c3 ?c4 ?c5 ?_)
    case c1 =>
     intro j u hj
     match j,hj with
     | 0,hj=>simp at hj;subst hj;simp [Addr.add]
    case c2=>intro u hu;simp at hu;subst hu;rfl
    case c3=>unfold maxLen;omega
    case c4=>omega
    case c5=>have:=hbel1.size;simp;omega
    intro v' w2 hown2 hgrow _
    have hbel2:Below w.heap.size w w2:=(hbel1.alloc hbel1.size _).grown hgrow (by have:=hbel1.size;simp;omega) (fun k hk=>(hown1.lt k hk).1)
    clear hgrow hown1 hbel1
    have HO:=Hd hown2
    clear hown2
    go_wp2
    go_roundw
    case rel=>exact ⟨k+n,xs++[(k:Int)+(n:Int)],by omega,by go_num,by simp;omega,by simpa using HO.out,HX,hbel2⟩
    case measure=>simp [intOf];omega
  ·have HX:=Hd (show validS s=true by rw [← HV.out];exact okFrom_end s k (by omega))
   go_wp2_with fail
   go_ret2
   exact ⟨_,by rw [HX.out];rfl,hbel⟩
def BolR (b:Bool) (w:World) (e:Ending) (w':World):Prop:=e=.returned (.bool b)∧Below w.heap.size w w'
theorem valid03_ex (s:ByteArray) (w:World) (hs:s.size≤1099511627776):Calls Tryz.prog 101 #[.string s] w (BolR (validS s) w):=by
 go_enter Tryz.func101,Tryz.ntmps101
 go_wp2_with (go_at_call 124;refine (bounds_ex _ _ hs).mono ?_;rintro e w' ⟨v,rfl,hb⟩)
 go_ret
 exact ⟨rfl,hb⟩
end Go.Proofs.YtniljgkkcnekgaaGreatDoor

/- The program's UTF-8 (utf): head, scalar, width, Decode, Len, Valid: what they compute. -/
namespace Go.Proofs.YtniljgkkcnekgaaGreatDoor
open Go.RowKit
theorem and192_nat:∀ a:Fin 256,a.val &&& 192=a.val / 64 * 64:=by decide +kernel
theorem u8_and192 (x:Int) (h₀:0≤x) (h₁:x<256):bits .and .u8 x 192=x / 64 * 64:=by
 obtain ⟨a,rfl⟩:=Int.eq_ofNat_of_zero_le h₀
 have ha:a<256:=by omega
 have:=(bits_nat .u8 8 (by decide) wraps_u8 a 192 ha (by decide)).1
 rw [show ((192:Nat):Int)=192 from rfl] at this
 rw [this,and192_nat ⟨a,ha⟩]
 simp
def HedR (b:Int) (w:World) (e:Ending) (w':World):Prop:=e=.returned (.tuple #[.int .i64 ((leadW b).1:Int),.int .i64 (leadW b).2.2])∧w=w'
theorem head_ex (b:Int) (w:World) (h0:0≤b) (h1:b<256):Calls Tryz.prog 149 #[.int .u8 b] w (HedR b w):=by
 have hcase:b<128∨(192≤b∧b<224)∨(224≤b∧b<240)∨(240≤b∧b<248)∨(128≤b∧b<192)∨248≤b:=by omega
 rcases hcase with h | ⟨h,h2⟩ | ⟨h,h2⟩ | ⟨h,h2⟩ | ⟨h,h2⟩ | h
 ·have HX:=Hd (leadW1 h)
  go_enter Tryz.func149,Tryz.ntmps149
  go_wp2
  go_ret2
  exact ⟨by rw [HX.out];rfl,rfl⟩
 ·have HX:=Hd (show leadW b=(2,128,b % 32) by rw [leadW2 ⟨h,h2⟩];congr 2;omega)
  have f:=u8_and31 b h0 h1
  go_enter Tryz.func149,Tryz.ntmps149
  go_wp2
  go_ret2
  exact ⟨by rw [HX.out];rfl,rfl⟩
 ·have HX:=Hd (show leadW b=(3,2048,b % 16) by rw [leadW3 ⟨h,h2⟩];congr 2;omega)
  have f:=u8_and15 b h0 h1
  go_enter Tryz.func149,Tryz.ntmps149
  go_wp2
  go_ret2
  exact ⟨by rw [HX.out];rfl,rfl⟩
 ·have HX:=Hd (show leadW b=(4,65536,b % 8) by rw [leadW4 ⟨h,h2⟩];congr 2;omega)
  have f:=u8_and7 b h0 h1
  go_enter Tryz.func149,Tryz.ntmps149
  go_wp2
  go_ret2
  exact ⟨by rw [HX.out];rfl,rfl⟩
 ·have HX:=Hd (leadW0 (.inl ⟨h,h2⟩))
  go_enter Tryz.func149,Tryz.ntmps149
  go_wp2
  go_ret2
  exact ⟨by rw [HX.out];rfl,rfl⟩
 ·have HX:=Hd (leadW0 (.inr h))
  go_enter Tryz.func149,Tryz.ntmps149
  go_wp2
  go_ret2
  exact ⟨by rw [HX.out];rfl,rfl⟩
theorem scalar_ex (r:Int) (w:World):Calls Tryz.prog 150 #[.int .i64 r] w fun e w'=>e=.returned (.bool (charB r))∧w=w':=by
 by_cases h0:0≤r<;>by_cases h1:r≤1114111<;>by_cases h2:r<55296<;>by_cases h3:57343<r <;>
 ·have hc:charB r=(decide (0≤r)&&decide (r≤1114111)&&(decide (r<55296) || decide (57343<r))):=rfl
  have HC:=Hd hc
  clear hc
  go_enter Tryz.func150,Tryz.ntmps150
  go_wp2
  go_ret
  refine ⟨ret_bool ?_,rfl⟩
  rw [HC.out]
  simp [*]
def widthD (r:Int):Int:=if r<128 then 1 else if r<2048 then 2 else if r<65536 then 3 else 4
theorem width_ex (r:Int) (w:World):Calls Tryz.prog 151 #[.int .i64 r] w fun e w'=>e=.returned (.int .i64 (widthD r))∧w=w':=by
 have hcase:r<128∨(¬ r<128∧r<2048)∨(¬ r<128∧¬ r<2048∧r<65536)∨(¬ r<128∧¬ r<2048∧¬ r<65536):=by omega
 have HW:=Hd (show widthD r=if r<128 then 1 else if r<2048 then 2 else if r<65536 then 3 else 4 from rfl)
 rcases hcase with h1 | ⟨h1,h2⟩ | ⟨h1,h2,h3⟩ | ⟨h1,h2,h3⟩
 ·go_enter Tryz.func151,Tryz.ntmps151
  go_wp2
  go_ret
  exact ⟨ret_int (by rw [HW.out,if_pos (by omega)]),rfl⟩
 ·go_enter Tryz.func151,Tryz.ntmps151
  go_wp2
  go_ret
  exact ⟨ret_int (by rw [HW.out,if_neg (by omega),if_pos (by omega)]),rfl⟩
 ·go_enter Tryz.func151,Tryz.ntmps151
  go_wp2
  go_ret
  exact ⟨ret_int (by rw [HW.out,if_neg (by omega),if_neg (by omega),if_pos (by omega)]),rfl⟩
 ·go_enter Tryz.func151,Tryz.ntmps151
  go_wp2
  go_ret
  exact ⟨ret_int (by rw [HW.out,if_neg (by omega),if_neg (by omega),if_neg (by omega)]),rfl⟩
theorem fits_width {n:Nat} {least d:Int} (h0:0≤d) (h:(n=1∧least=0∧d<128)∨(n=2∧least=128∧d<2048)∨(n=3∧least=2048∧d<65536)∨(n=4∧least=65536)):(charB d=true∧widthD d=n)↔outside least d=false:=by
 constructor
 ·rintro ⟨h1,h2⟩
  have h3:=(charB_iff d).1 h1
  obtain ⟨k1,k2,k3⟩:=h3
  refine outside_no ?_ (by omega) (by omega)
  unfold widthD at h2
  split at h2
  ·omega
  ·split at h2
   ·omega
   ·split at h2<;>omega
 ·intro h1
  have h2:¬ (d<least∨1114111<d∨(55296≤d∧d<57344)):=fun h=>by rw [outside_yes h] at h1;cases h1
  refine ⟨(charB_iff d).2 ⟨h0,by omega,by omega⟩,?_⟩
  unfold widthD
  split
  ·omega
  ·split
   ·omega
   ·split<;>omega
def UdcR (s:ByteArray) (p:Nat) (w:World) (e:Ending) (w':World):Prop:=∃ r:Int,e=.returned (.tuple #[.int .i64 r,.int .i64 (charAt s p)])∧w=w'
theorem head_n (b:Int) (n:Nat) (l c:Int) (h:leadW b=(n,l,c)) (w:World) (h0:0≤b) (h1:b<256):Calls Tryz.prog 149 #[.int .u8 b] w (fun e w'=>e=.returned (.tuple #[.int .i64 (n:Int),.int .i64 c])∧w=w') :=
 (head_ex b w h0 h1).mono fun e w' hh=>⟨by rw [hh.1,h],hh.2⟩
set_option maxRecDepth 100000 in
set_option maxHeartbeats 3200000 in
theorem udec_ex (s:ByteArray) (p:Nat) (w:World) (hs:s.size≤maxLen) (hp:p<s.size):Calls Tryz.prog 129 #[.string s,.int .i64 p] w (UdcR s p w):=by
 unfold maxLen at hs
 have hb0:=byteAt_eq s p hp
 obtain ⟨hb1,hb2⟩:=byteAt_range s p
 have hcls:(192≤byteAt s p∧byteAt s p<224)∨(224≤byteAt s p∧byteAt s p<240)∨(240≤byteAt s p∧byteAt s p<248)∨(byteAt s p<128)∨((128≤byteAt s p∧byteAt s p<192)∨248≤byteAt s p):=by omega
 rcases hcls with ⟨h21,h22⟩ | ⟨h21,h22⟩ | ⟨h21,h22⟩ | h21 | h21
 ·have hl:leadW (byteAt s p)=(2,128,byteAt s p-192):=leadW2 ⟨h21,h22⟩
  have HL:=Hd hl
  clear hl
  by_cases hsz:p+2≤s.size
  ·have hsz':¬ (s.size:Int)-(p:Int)<2:=by omega
   go_enter Tryz.func129,Tryz.ntmps129
   go_wp2_with (go_at_call 149;refine (head_n _ _ _ _ HL.out _ hb1 (by omega)).mono ?_;rintro e w' ⟨rfl,rfl⟩)
   go_simp
   go_loop [4,7] (fun r k=>∃ (d:Int) (n:Nat),n+1≤2∧r=.int .i64 d∧k=.int .i64 ((n:Int)+1)∧0≤d∧((n=0∧d<32)∨(n=1∧d<2048)∨(n=2∧d<131072)∨(n=3∧d<8388608))∧Hid (conts s p (byteAt s p-192) n=some d)) (fun _ k=>2-(intOf k).toNat)
   case atStart=>exact ⟨_,0,by omega,rfl,by simp,by omega,by omega,Hd rfl⟩
   case round =>
    obtain ⟨d,n,hn,rfl,rfl,hd0,hd1,HM⟩:=hrel
    have hd9:d<72057594037927936:=by omega
    by_cases hlt:n+1<2
    ·have hlt2:p+(n+1)<s.size:=by omega
     have hb3:=byteAt_eq s (p+(n+1)) hlt2
     obtain ⟨hb4,hb5⟩:=byteAt_range s (p+(n+1))
     by_cases hc:128≤byteAt s (p+(n+1))∧byteAt s (p+(n+1))<192
     ·have f1:bits .and .u8 (byteAt s (p+(n+1))) 192=128:=by rw [u8_and192 _ hb4 (by omega)];omega
      have f2:=u8_and63 (byteAt s (p+(n+1))) hb4 (by omega)
      have f3:=i64_or6 d (byteAt s (p+(n+1)) % 64) (by omega) (by omega) (by omega) (by omega)
      have HM2:=Hd (show conts s p (byteAt s p-192) (n+1)=some (d * 64+byteAt s (p+(n+1)) % 64) by rw [conts_yes HM.out hc.1 hc.2];congr 1;omega)
      clear hc
      go_wp2_with fail
      go_round
      case rel=>exact ⟨_,n+1,by omega,rfl,by go_num,by omega,by omega,HM2⟩
      case measure=>simp [intOf];omega
     ·have f1:(bits .and .u8 (byteAt s (p+(n+1))) 192==128)=false:=by rw [u8_and192 _ hb4 (by omega)];simp;omega
      have f2:(bits .and .u8 (byteAt s (p+(n+1))) 192 != 128)=true:=by rw [u8_and192 _ hb4 (by omega)];simp;omega
      have HX:=Hd (show charAt s p=0 from charAt_Wcont HL.out (by omega) (by omega) (conts_no HM.out (by omega)))
      clear hc
      go_wp2_with fail
      go_ret2
      exact ⟨0,by rw [HX.out];rfl,rfl⟩
    ·obtain rfl:n=1:=by omega
     have HF:=Hd (fits_width (n:=2) (least:=128) hd0 (.inr (.inl ⟨rfl,rfl,by omega⟩)))
     have HC:=Hd (charAt_Wof HL.out (by omega) (by omega) HM.out)
     clear hlt
     cases hcb:charB d with
     | false =>
       have HX:=Hd (show charAt s p=0 by
        rw [HC.out]
        cases ho:outside 128 d
        ·have:=(HF.out.2 ho).1;rw [hcb] at this;cases this
        ·rfl)
       go_wp2_with (go_at_call 150;refine (scalar_ex _ _).mono ?_;rintro e w' ⟨rfl,rfl⟩)
       all_goals
        go_ret2
        exact ⟨0,by rw [HX.out];rfl,rfl⟩
     | true =>
       by_cases hwd:widthD d=2
       ·have HX:=Hd (show charAt s p=2 by rw [HC.out,HF.out.1 ⟨hcb,hwd⟩];rfl)
        go_wp2_with (first | (go_at_call 150;refine (scalar_ex _ _).mono ?_;rintro e w' ⟨rfl,rfl⟩) | (go_at_call 151;refine (width_ex _ _).mono ?_;rintro e w' ⟨rfl,rfl⟩))
        all_goals
         go_ret2
         exact ⟨_,by rw [HX.out];rfl,rfl⟩
       ·have w1:(widthD d==2)=false:=by simpa using hwd
        have w2:(widthD d != 2)=true:=by simpa using hwd
        have HX:=Hd (show charAt s p=0 by
         rw [HC.out]
         cases ho:outside 128 d
         ·exact absurd (HF.out.2 ho).2 hwd
         ·rfl)
        clear hwd
        go_wp2_with (first | (go_at_call 150;refine (scalar_ex _ _).mono ?_;rintro e w' ⟨rfl,rfl⟩) | (go_at_call 151;refine (width_ex _ _).mono ?_;rintro e w' ⟨rfl,rfl⟩))
        all_goals
         go_ret2
         exact ⟨0,by rw [HX.out];rfl,rfl⟩
  ·have hsz':(s.size:Int)-(p:Int)<2:=by omega
   have HX:=Hd (show charAt s p=0 from charAt_Wshort HL.out (by omega) (by omega))
   go_enter Tryz.func129,Tryz.ntmps129
   go_wp2_with (go_at_call 149;refine (head_n _ _ _ _ HL.out _ hb1 (by omega)).mono ?_;rintro e w' ⟨rfl,rfl⟩)
   all_goals
    go_ret2
    exact ⟨0,by rw [HX.out];rfl,rfl⟩
 ·have hl:leadW (byteAt s p)=(3,2048,byteAt s p-224):=leadW3 ⟨h21,h22⟩
  have HL:=Hd hl
  clear hl
  by_cases hsz:p+3≤s.size
  ·have hsz':¬ (s.size:Int)-(p:Int)<3:=by omega
   go_enter Tryz.func129,Tryz.ntmps129
   go_wp2_with (go_at_call 149;refine (head_n _ _ _ _ HL.out _ hb1 (by omega)).mono ?_;rintro e w' ⟨rfl,rfl⟩)
   go_simp
   go_loop [4,7] (fun r k=>∃ (d:Int) (n:Nat),n+1≤3∧r=.int .i64 d∧k=.int .i64 ((n:Int)+1)∧0≤d∧((n=0∧d<16)∨(n=1∧d<1024)∨(n=2∧d<65536)∨(n=3∧d<4194304))∧Hid (conts s p (byteAt s p-224) n=some d)) (fun _ k=>3-(intOf k).toNat)
   case atStart=>exact ⟨_,0,by omega,rfl,by simp,by omega,by omega,Hd rfl⟩
   case round =>
    obtain ⟨d,n,hn,rfl,rfl,hd0,hd1,HM⟩:=hrel
    have hd9:d<72057594037927936:=by omega
    by_cases hlt:n+1<3
    ·have hlt2:p+(n+1)<s.size:=by omega
     have hb3:=byteAt_eq s (p+(n+1)) hlt2
     obtain ⟨hb4,hb5⟩:=byteAt_range s (p+(n+1))
     by_cases hc:128≤byteAt s (p+(n+1))∧byteAt s (p+(n+1))<192
     ·have f1:bits .and .u8 (byteAt s (p+(n+1))) 192=128:=by rw [u8_and192 _ hb4 (by omega)];omega
      have f2:=u8_and63 (byteAt s (p+(n+1))) hb4 (by omega)
      have f3:=i64_or6 d (byteAt s (p+(n+1)) % 64) (by omega) (by omega) (by omega) (by omega)
      have HM2:=Hd (show conts s p (byteAt s p-224) (n+1)=some (d * 64+byteAt s (p+(n+1)) % 64) by rw [conts_yes HM.out hc.1 hc.2];congr 1;omega)
      clear hc
      go_wp2_with fail
      go_round
      case rel=>exact ⟨_,n+1,by omega,rfl,by go_num,by omega,by omega,HM2⟩
      case measure=>simp [intOf];omega
     ·have f1:(bits .and .u8 (byteAt s (p+(n+1))) 192==128)=false:=by rw [u8_and192 _ hb4 (by omega)];simp;omega
      have f2:(bits .and .u8 (byteAt s (p+(n+1))) 192 != 128)=true:=by rw [u8_and192 _ hb4 (by omega)];simp;omega
      have HX:=Hd (show charAt s p=0 from charAt_Wcont HL.out (by omega) (by omega) (conts_no HM.out (by omega)))
      clear hc
      go_wp2_with fail
      go_ret2
      exact ⟨0,by rw [HX.out];rfl,rfl⟩
    ·obtain rfl:n=2:=by omega
     have HF:=Hd (fits_width (n:=3) (least:=2048) hd0 (.inr (.inr (.inl ⟨rfl,rfl,by omega⟩))))
     have HC:=Hd (charAt_Wof HL.out (by omega) (by omega) HM.out)
     clear hlt
     cases hcb:charB d with
     | false =>
       have HX:=Hd (show charAt s p=0 by
        rw [HC.out]
        cases ho:outside 2048 d
        ·have:=(HF.out.2 ho).1;rw [hcb] at this;cases this
        ·rfl)
       go_wp2_with (go_at_call 150;refine (scalar_ex _ _).mono ?_;rintro e w' ⟨rfl,rfl⟩)
       all_goals
        go_ret2
        exact ⟨0,by rw [HX.out];rfl,rfl⟩
     | true =>
       by_cases hwd:widthD d=3
       ·have HX:=Hd (show charAt s p=3 by rw [HC.out,HF.out.1 ⟨hcb,hwd⟩];rfl)
        go_wp2_with (first | (go_at_call 150;refine (scalar_ex _ _).mono ?_;rintro e w' ⟨rfl,rfl⟩) | (go_at_call 151;refine (width_ex _ _).mono ?_;rintro e w' ⟨rfl,rfl⟩))
        all_goals
         go_ret2
         exact ⟨_,by rw [HX.out];rfl,rfl⟩
       ·have w1:(widthD d==3)=false:=by simpa using hwd
        have w2:(widthD d != 3)=true:=by simpa using hwd
        have HX:=Hd (show charAt s p=0 by
         rw [HC.out]
         cases ho:outside 2048 d
         ·exact absurd (HF.out.2 ho).2 hwd
         ·rfl)
        clear hwd
        go_wp2_with (first | (go_at_call 150;refine (scalar_ex _ _).mono ?_;rintro e w' ⟨rfl,rfl⟩) | (go_at_call 151;refine (width_ex _ _).mono ?_;rintro e w' ⟨rfl,rfl⟩))
        all_goals
         go_ret2
         exact ⟨0,by rw [HX.out];rfl,rfl⟩
  ·have hsz':(s.size:Int)-(p:Int)<3:=by omega
   have HX:=Hd (show charAt s p=0 from charAt_Wshort HL.out (by omega) (by omega))
   go_enter Tryz.func129,Tryz.ntmps129
   go_wp2_with (go_at_call 149;refine (head_n _ _ _ _ HL.out _ hb1 (by omega)).mono ?_;rintro e w' ⟨rfl,rfl⟩)
   all_goals
    go_ret2
    exact ⟨0,by rw [HX.out];rfl,rfl⟩
 ·have hl:leadW (byteAt s p)=(4,65536,byteAt s p-240):=leadW4 ⟨h21,h22⟩
  have HL:=Hd hl
  clear hl
  by_cases hsz:p+4≤s.size
  ·have hsz':¬ (s.size:Int)-(p:Int)<4:=by omega
   go_enter Tryz.func129,Tryz.ntmps129
   go_wp2_with (go_at_call 149;refine (head_n _ _ _ _ HL.out _ hb1 (by omega)).mono ?_;rintro e w' ⟨rfl,rfl⟩)
   go_simp
   go_loop [4,7] (fun r k=>∃ (d:Int) (n:Nat),n+1≤4∧r=.int .i64 d∧k=.int .i64 ((n:Int)+1)∧0≤d∧((n=0∧d<8)∨(n=1∧d<512)∨(n=2∧d<32768)∨(n=3∧d<2097152))∧Hid (conts s p (byteAt s p-240) n=some d)) (fun _ k=>4-(intOf k).toNat)
   case atStart=>exact ⟨_,0,by omega,rfl,by simp,by omega,by omega,Hd rfl⟩
   case round =>
    obtain ⟨d,n,hn,rfl,rfl,hd0,hd1,HM⟩:=hrel
    have hd9:d<72057594037927936:=by omega
    by_cases hlt:n+1<4
    ·have hlt2:p+(n+1)<s.size:=by omega
     have hb3:=byteAt_eq s (p+(n+1)) hlt2
     obtain ⟨hb4,hb5⟩:=byteAt_range s (p+(n+1))
     by_cases hc:128≤byteAt s (p+(n+1))∧byteAt s (p+(n+1))<192
     ·have f1:bits .and .u8 (byteAt s (p+(n+1))) 192=128:=by rw [u8_and192 _ hb4 (by omega)];omega
      have f2:=u8_and63 (byteAt s (p+(n+1))) hb4 (by omega)
      have f3:=i64_or6 d (byteAt s (p+(n+1)) % 64) (by omega) (by omega) (by omega) (by omega)
      have HM2:=Hd (show conts s p (byteAt s p-240) (n+1)=some (d * 64+byteAt s (p+(n+1)) % 64) by rw [conts_yes HM.out hc.1 hc.2];congr 1;omega)
      clear hc
      go_wp2_with fail
      go_round
      case rel=>exact ⟨_,n+1,by omega,rfl,by go_num,by omega,by omega,HM2⟩
      case measure=>simp [intOf];omega
     ·have f1:(bits .and .u8 (byteAt s (p+(n+1))) 192==128)=false:=by rw [u8_and192 _ hb4 (by omega)];simp;omega
      have f2:(bits .and .u8 (byteAt s (p+(n+1))) 192 != 128)=true:=by rw [u8_and192 _ hb4 (by omega)];simp;omega
      have HX:=Hd (show charAt s p=0 from charAt_Wcont HL.out (by omega) (by omega) (conts_no HM.out (by omega)))
      clear hc
      go_wp2_with fail
      go_ret2
      exact ⟨0,by rw [HX.out];rfl,rfl⟩
    ·obtain rfl:n=3:=by omega
     have HF:=Hd (fits_width (n:=4) (least:=65536) hd0 (.inr (.inr (.inr ⟨rfl,rfl⟩))))
     have HC:=Hd (charAt_Wof HL.out (by omega) (by omega) HM.out)
     clear hlt
     cases hcb:charB d with
     | false =>
       have HX:=Hd (show charAt s p=0 by
        rw [HC.out]
        cases ho:outside 65536 d
        ·have:=(HF.out.2 ho).1;rw [hcb] at this;cases this
        ·rfl)
       go_wp2_with (go_at_call 150;refine (scalar_ex _ _).mono ?_;rintro e w' ⟨rfl,rfl⟩)
       all_goals
        go_ret2
        exact ⟨0,by rw [HX.out];rfl,rfl⟩
     | true =>
       by_cases hwd:widthD d=4
       ·have HX:=Hd (show charAt s p=4 by rw [HC.out,HF.out.1 ⟨hcb,hwd⟩];rfl)
        go_wp2_with (first | (go_at_call 150;refine (scalar_ex _ _).mono ?_;rintro e w' ⟨rfl,rfl⟩) | (go_at_call 151;refine (width_ex _ _).mono ?_;rintro e w' ⟨rfl,rfl⟩))
        all_goals
         go_ret2
         exact ⟨_,by rw [HX.out];rfl,rfl⟩
       ·have w1:(widthD d==4)=false:=by simpa using hwd
        have w2:(widthD d != 4)=true:=by simpa using hwd
        have HX:=Hd (show charAt s p=0 by
         rw [HC.out]
         cases ho:outside 65536 d
         ·exact absurd (HF.out.2 ho).2 hwd
         ·rfl)
        clear hwd
        go_wp2_with (first | (go_at_call 150;refine (scalar_ex _ _).mono ?_;rintro e w' ⟨rfl,rfl⟩) | (go_at_call 151;refine (width_ex _ _).mono ?_;rintro e w' ⟨rfl,rfl⟩))
        all_goals
         go_ret2
         exact ⟨0,by rw [HX.out];rfl,rfl⟩
  ·have hsz':(s.size:Int)-(p:Int)<4:=by omega
   have HX:=Hd (show charAt s p=0 from charAt_Wshort HL.out (by omega) (by omega))
   go_enter Tryz.func129,Tryz.ntmps129
   go_wp2_with (go_at_call 149;refine (head_n _ _ _ _ HL.out _ hb1 (by omega)).mono ?_;rintro e w' ⟨rfl,rfl⟩)
   all_goals
    go_ret2
    exact ⟨0,by rw [HX.out];rfl,rfl⟩
 ·have hl:leadW (byteAt s p)=(1,0,byteAt s p):=leadW1 h21
  have HL:=Hd hl
  clear hl
  by_cases hsz:p+1≤s.size
  ·have hsz':¬ (s.size:Int)-(p:Int)<1:=by omega
   go_enter Tryz.func129,Tryz.ntmps129
   go_wp2_with (go_at_call 149;refine (head_n _ _ _ _ HL.out _ hb1 (by omega)).mono ?_;rintro e w' ⟨rfl,rfl⟩)
   go_simp
   go_loop [4,7] (fun r k=>∃ (d:Int) (n:Nat),n+1≤1∧r=.int .i64 d∧k=.int .i64 ((n:Int)+1)∧0≤d∧((n=0∧d<128)∨(n=1∧d<8192)∨(n=2∧d<524288)∨(n=3∧d<33554432))∧Hid (conts s p (byteAt s p) n=some d)) (fun _ k=>1-(intOf k).toNat)
   case atStart=>exact ⟨_,0,by omega,rfl,by simp,by omega,by omega,Hd rfl⟩
   case round =>
    obtain ⟨d,n,hn,rfl,rfl,hd0,hd1,HM⟩:=hrel
    have hd9:d<72057594037927936:=by omega
    by_cases hlt:n+1<1
    ·exfalso;omega
    ·obtain rfl:n=0:=by omega
     have HF:=Hd (fits_width (n:=1) (least:=0) hd0 (.inl ⟨rfl,rfl,by omega⟩))
     have HC:=Hd (charAt_Wof HL.out (by omega) (by omega) HM.out)
     clear hlt
     cases hcb:charB d with
     | false =>
       have HX:=Hd (show charAt s p=0 by
        rw [HC.out]
        cases ho:outside 0 d
        ·have:=(HF.out.2 ho).1;rw [hcb] at this;cases this
        ·rfl)
       go_wp2_with (go_at_call 150;refine (scalar_ex _ _).mono ?_;rintro e w' ⟨rfl,rfl⟩)
       all_goals
        go_ret2
        exact ⟨0,by rw [HX.out];rfl,rfl⟩
     | true =>
       by_cases hwd:widthD d=1
       ·have HX:=Hd (show charAt s p=1 by rw [HC.out,HF.out.1 ⟨hcb,hwd⟩];rfl)
        go_wp2_with (first | (go_at_call 150;refine (scalar_ex _ _).mono ?_;rintro e w' ⟨rfl,rfl⟩) | (go_at_call 151;refine (width_ex _ _).mono ?_;rintro e w' ⟨rfl,rfl⟩))
        all_goals
         go_ret2
         exact ⟨_,by rw [HX.out];rfl,rfl⟩
       ·have w1:(widthD d==1)=false:=by simpa using hwd
        have w2:(widthD d != 1)=true:=by simpa using hwd
        have HX:=Hd (show charAt s p=0 by
         rw [HC.out]
         cases ho:outside 0 d
         ·exact absurd (HF.out.2 ho).2 hwd
         ·rfl)
        clear hwd
        go_wp2_with (first | (go_at_call 150;refine (scalar_ex _ _).mono ?_;rintro e w' ⟨rfl,rfl⟩) | (go_at_call 151;refine (width_ex _ _).mono ?_;rintro e w' ⟨rfl,rfl⟩))
        all_goals
         go_ret2
         exact ⟨0,by rw [HX.out];rfl,rfl⟩
  ·have hsz':(s.size:Int)-(p:Int)<1:=by omega
   have HX:=Hd (show charAt s p=0 from charAt_Wshort HL.out (by omega) (by omega))
   go_enter Tryz.func129,Tryz.ntmps129
   go_wp2_with (go_at_call 149;refine (head_n _ _ _ _ HL.out _ hb1 (by omega)).mono ?_;rintro e w' ⟨rfl,rfl⟩)
   all_goals
    go_ret2
    exact ⟨0,by rw [HX.out];rfl,rfl⟩
 ·have HL:=Hd (leadW0 h21)
  have HX:=Hd (show charAt s p=0 from charAt_W0 h21)
  clear h21
  go_enter Tryz.func129,Tryz.ntmps129
  go_wp2_with (go_at_call 149;refine (head_n _ _ _ _ HL.out _ hb1 (by omega)).mono ?_;rintro e w' ⟨rfl,rfl⟩)
  all_goals
   go_ret2
   exact ⟨0,by rw [HX.out];rfl,rfl⟩
def LenR (s:ByteArray) (w:World) (e:Ending) (w':World):Prop:=∃ n k:Int,e=.returned (.tuple #[.int .i64 n,.int .i64 k])∧k=(if validS s=true then 0 else 5)∧w=w'
set_option maxRecDepth 100000 in
set_option maxHeartbeats 800000 in
theorem ulen_ex (s:ByteArray) (w:World) (hs:s.size≤1099511627776):Calls Tryz.prog 110 #[.string s] w (LenR s w):=by
 have hs':s.size≤maxLen:=by unfold maxLen;omega
 go_enter Tryz.func110,Tryz.ntmps110
 go_wp2_with fail
 go_loop [4,5] (fun v i=>∃ (k n:Nat),k≤s.size∧n≤k∧i=.int .i64 k∧v=.int .i64 n∧Hid (okFrom s (s.size-k) k=validS s)) (fun _ i=>s.size-(intOf i).toNat)
 case atStart=>exact ⟨0,0,by omega,by omega,rfl,rfl,Hd rfl⟩
 case round =>
  obtain ⟨k,c,hk,hc,rfl,rfl,HV⟩:=hrel
  by_cases hlt:k<s.size
  ·go_wp2_with fail
   refine (udec_ex s k _ hs' hlt).mono ?_
   rintro e w1 ⟨r,rfl,rfl⟩
   by_cases hz:charAt s k=0
   ·have HX:=Hd (show validS s=false by rw [← HV.out];exact okFrom_bad s k hlt hz)
    rw [hz]
    clear hz
    go_wp2_with fail
    go_ret2
    exact ⟨_,_,rfl,by rw [HX.out];rfl,rfl⟩
   ·have hle:=charAt_le hz
    obtain ⟨n,hn⟩:∃ n,charAt s k=n:=⟨_,rfl⟩
    have HX:=Hd (show okFrom s (s.size-(k+n)) (k+n)=validS s by rw [← HV.out];exact (okFrom_step s k n hlt hn (by rw [← hn];exact hz)).symm)
    rw [hn] at hz hle ⊢
    clear hn
    have hn1:((n:Int)==0)=false:=by simp;omega
    go_wp2_with fail
    go_round
    case rel=>exact ⟨k+n,c+1,by omega,by omega,by go_num,by go_num,HX⟩
    case measure=>simp [intOf];omega
  ·have HX:=Hd (show validS s=true by rw [← HV.out];exact okFrom_end s k (by omega))
   go_wp2_with fail
   go_ret2
   exact ⟨_,_,rfl,by rw [HX.out];rfl,rfl⟩
def UvlR (b:Bool) (w:World) (e:Ending) (w':World):Prop:=e=.returned (.bool b)∧w=w'
theorem uvalid_ex (s:ByteArray) (w:World) (hs:s.size≤1099511627776):Calls Tryz.prog 84 #[.string s] w (UvlR (validS s) w):=by
 cases hv:validS s
 all_goals
  have HV:=Hd hv
  go_enter Tryz.func84,Tryz.ntmps84
  go_wp2_with fail
  refine (ulen_ex s _ hs).mono ?_
  rintro e w' ⟨n,k,rfl,hk,rfl⟩
  rw [HV.out] at hk
  simp only [if_true,Bool.false_eq_true,if_false] at hk
  subst hk
  go_wp2_with fail
  go_ret
  exact ⟨rfl,rfl⟩
end Go.Proofs.YtniljgkkcnekgaaGreatDoor
