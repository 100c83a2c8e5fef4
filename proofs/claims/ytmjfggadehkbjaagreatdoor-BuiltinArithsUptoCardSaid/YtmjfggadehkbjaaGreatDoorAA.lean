/- Strings of decimal digits as natural numbers: digits by their places, the numeral of a number. -/
import Derived.Test.YtmjfggadehkbjaaGreatDoorProg
import Derived.Test.YtmjfggadehkbjaaGreatDoorGA
import Derived.Test.YtmjfggadehkbjaaGreatDoorGB
import Derived.Test.YtmjfggadehkbjaaGreatDoorGC
import Derived.Test.YtmjfggadehkbjaaGreatDoorShelf
import Derived.Test.YtmjfggadehkbjaaGreatDoorGD
import Derived.Lib.TrimByte
import Derived.Below
import Derived.Laws.AppendOwn
import Derived.Deep.Slices
import Derived.Deep.RegionHeld3
import Derived.Lib.Hide
import Derived.Deep.MidRow
import Derived.WalkKit
import Derived.WalkSpells
import Derived.WalkLawsBesides
import Derived.LoopTactic
import Derived.BigQuiet
import Derived.Deep.QuietTactic
import Derived.Laws.BytesArg
import Derived.OwnWalk
import Derived.Shelf.Strings.Builder1
import Derived.Shelf.Strings.Builder2
import Derived.Shelf.Strings.Trim
import Derived.Shelf.Small.Utf8
import Derived.Shelf.Small.Strs
import Derived.Shelf.Strings.BuilderF
import Derived.Shelf.Strings.BuilderK
import Derived.Shelf.Utf8.RuneCount
import Derived.Shelf.Strings.Builder2Cap
import Derived.Shelf.Strings.Search1
import Derived.Shelf.Strings.Search2
import Derived.Shelf.Strings.Search3
import Derived.Shelf.Strings.Count
import Derived.Shelf.LaysM
import Derived.Shelf.Strings.Shaped
import Derived.Shelf.Strings.Prefix
import Derived.Shelf.Strings.Split
import Derived.Shelf.Strings.SplitShaped
import Derived.Shelf.Unicode.Decode
import Derived.Shelf.Strings.Runes
import Derived.Shelf.Strings.RuneCount
import Derived.Shelf.Strings.AsciiSet
import Derived.Shelf.Strings.Explode
import Derived.Shelf.Bits.Mul64
import Derived.Shelf.Strings.Repeat
import Derived.Shelf.Unicode.DecodeSlow
import Derived.Shelf.Unicode.DecodeAny
import Derived.Shelf.Unicode.DecodeLast
import Derived.Ground.Names2Prog
import Derived.Shelf.Slices.SearchI
import Derived.Deep.AppendLies
import Derived.Lib.Repeat
import Derived.Laws.OwnMore
import Derived.Lib.SliceRun
import Derived.OrdersHeld
import Derived.Laws.CopyOwn
import Derived.Deep.WholeRow
import Derived.Laws.CopyRow
import Derived.Maps.OwnOps
import Derived.Maps.OwnSet
import Derived.Maps.Views
import Derived.Deep.Light
import Derived.Lib.Bytealg
import Derived.StillTailTactics
import Derived.Deep.DeepCutAuto
import Derived.Great.BuildSlice
import Derived.Sort.Walk0
import Derived.Deep.DeepMust
namespace Go.Proofs.YtmjfggadehkbjaaGreatDoor
def numV (s:ByteArray):Nat:=dv s.data.toList
def digA (s:ByteArray) (i:Nat):Nat:=if i<s.size then (byteI s (s.size-1-i)).toNat-48 else 0
theorem dv_append (l m:List UInt8):dv (l++m)=dv l * 10 ^ m.length+dv m:=by
 unfold dv
 rw [List.foldl_append,fold_acc]
 rfl
theorem data_len (s:ByteArray):s.data.toList.length=s.size:=rfl
theorem dv_place:∀ (l:List UInt8),AllDig l→∀ i (h:i<l.length),dv l / 10 ^ i % 10=(l[l.length-1-i]'(by omega)).toNat-48
 | [],_,i,h=>absurd h (Nat.not_lt_zero _)
 | c::r,hd,i,h=>by
   have hr:AllDig r:=fun x hx=>hd x (by simp [hx])
   have hc:=hd c (by simp)
   rw [dv_cons]
   by_cases hi:i<r.length
   ·have ih:=dv_place r hr i hi
    have e:(c::r)[(c::r).length-1-i]'(by simp;omega)=r[r.length-1-i]'(by omega):=by
     have:(c::r).length-1-i=(r.length-1-i)+1:=by simp;omega
     simp only [this,List.getElem_cons_succ]
    rw [e,← ih]
    obtain ⟨k,hk⟩:∃ k,r.length=i+1+k:=⟨r.length-(i+1),by omega⟩
    rw [hk,Nat.pow_add,Nat.pow_succ]
    rw [show (c.toNat-48) * (10 ^ i * 10 * 10 ^ k)+dv r=dv r+10 ^ i * (10 * (10 ^ k * (c.toNat-48))) by
     rw [Nat.add_comm];congr 1;simp only [Nat.mul_comm,Nat.mul_left_comm,Nat.mul_assoc]]
    rw [Nat.add_mul_div_left _ _ (Nat.pow_pos (by decide)),Nat.add_mul_mod_self_left]
   ·have hi2:i=r.length:=by simp at h;omega
    subst hi2
    have e:(c::r)[(c::r).length-1-r.length]'(by simp)=c:=by simp
    rw [e,Nat.mul_comm,Nat.mul_add_div (Nat.pow_pos (by decide)),Nat.div_eq_of_lt (dv_lt r hr),Nat.add_zero,Nat.mod_eq_of_lt (by omega)]
theorem digA_num {s:ByteArray} (h:DigS s) (i:Nat):digA s i=numV s / 10 ^ i % 10:=by
 unfold digA numV
 have hd:=allDig_of h
 split
 ·rename_i hi
  have:=dv_place s.data.toList hd i hi
  rw [this]
  have hk:s.size-1-i<s.size:=by omega
  rw [← byteI_eq hk]
  have e:s.data.toList[s.data.toList.length-1-i]'(by rw [data_len];omega)=s[s.size-1-i]:=rfl
  rw [e]
  omega
 ·rename_i hi
  have h1:=dv_lt _ hd
  rw [data_len] at h1
  have h2:10 ^ s.size≤10 ^ i:=Nat.pow_le_pow_right (by decide) (by omega)
  rw [Nat.div_eq_of_lt (by omega)]
theorem digA_le {s:ByteArray} (h:DigS s) (i:Nat):digA s i≤9:=by rw [digA_num h];omega
theorem numV_lt {s:ByteArray} (h:DigS s):numV s<10 ^ s.size:=dv_lt _ (allDig_of h)
def digN:Nat→Nat→List Int
 | 0,_=>[]
 | n+1,a=>digN n (a / 10)++[((a % 10:Nat):Int)+48]
theorem digN_len:∀ n a,(digN n a).length=n
 | 0,_=>rfl
 | n+1,a=>by unfold digN;rw [List.length_append,digN_len];rfl
theorem digN_range (n a:Nat):∀ x∈digN n a,48≤x∧x≤57:=by
 induction n generalizing a with
 | zero=>intro x hx;cases hx
 | succ n ih =>
   intro x hx
   unfold digN at hx
   rcases List.mem_append.1 hx with hx | hx
   ·exact ih _ x hx
   ·simp at hx;omega
def stripS (s:ByteArray):ByteArray:=⟨(Lib.trimLeftB s.data.toList 48).toArray⟩
def numS (a:Nat):ByteArray:=stripS (strOfNums (digN (a+1) a))
def Canon (s:ByteArray):Prop:=DigS s∧(s.size=0∨byteI s 0≠48)
theorem dv_trim:∀ l:List UInt8,dv (Lib.trimLeftB l 48)=dv l
 | []=>rfl
 | c::r=>by
   unfold Lib.trimLeftB
   rw [List.dropWhile_cons]
   split
   ·rename_i h
    have hc:c=48:=by simpa using h
    rw [show List.dropWhile (fun x=>x==48) r=Lib.trimLeftB r 48 from rfl,dv_trim r,dv_cons,hc]
    simp
   ·rfl
theorem trim_first:∀ l:List UInt8,Lib.trimLeftB l 48=[]∨∃ c r,Lib.trimLeftB l 48=c::r∧c≠48
 | []=>.inl rfl
 | c::r=>by
   unfold Lib.trimLeftB
   rw [List.dropWhile_cons]
   split
   ·exact trim_first r
   ·rename_i h
    exact .inr ⟨c,r,rfl,by simpa using h⟩
theorem trim_sub (l:List UInt8):∀ x∈Lib.trimLeftB l 48,x∈l:=fun _ hx=>(List.dropWhile_sublist _).mem hx
theorem dig_iff (s:ByteArray):DigS s↔AllDig s.data.toList:=by
 refine ⟨allDig_of,fun h i hi=>?_⟩
 have:=h s.data.toList[i] (List.getElem_mem hi)
 rw [← byteI_eq hi]
 have e:s.data.toList[i]'hi=s[i]:=rfl
 rw [e] at this
 omega
theorem strip_canon {s:ByteArray} (h:DigS s):Canon (stripS s):=by
 refine ⟨(dig_iff _).2 fun c hc=>allDig_of h c (trim_sub _ c (by simpa [stripS] using hc)),?_⟩
 rcases trim_first s.data.toList with e | ⟨c,r,e,hc⟩
 ·left
  unfold stripS
  rw [e]
  rfl
 ·right
  unfold stripS
  rw [e]
  have:(0:Nat)<(⟨(c::r).toArray⟩:ByteArray).size:=by simp [ByteArray.size]
  rw [← byteI_eq this]
  have e2:(⟨(c::r).toArray⟩:ByteArray)[0]=c:=rfl
  rw [e2]
  intro h2
  exact hc (UInt8.toNat_inj.1 (by show c.toNat=48;omega))
theorem numV_strip (s:ByteArray):numV (stripS s)=numV s:=by
 unfold numV stripS
 simpa using dv_trim s.data.toList
theorem canon_list {s:ByteArray} (h:Canon s):s.data.toList=[]∨∃ c r,s.data.toList=c::r∧49≤c.toNat∧c.toNat≤57∧AllDig r:=by
 cases hl:s.data.toList with
 | nil=>exact .inl rfl
 | cons c r =>
   right
   have hd:=allDig_of h.1
   rw [hl] at hd
   have hs:0<s.size:=by rw [← data_len,hl];simp
   have h0:=h.2.resolve_left (by omega)
   rw [← byteI_eq hs] at h0
   have e:s[0]=c:=by
    have:s.data.toList[0]'(by rw [data_len];exact hs)=c:=by simp [hl]
    exact this
   rw [e] at h0
   have:=hd c (by simp)
   exact ⟨c,r,rfl,by omega,by omega,fun x hx=>hd x (by simp [hx])⟩
theorem canon_size {s:ByteArray} (h:Canon s) (hs:0<s.size):10 ^ (s.size-1)≤numV s:=by
 rcases canon_list h with e | ⟨c,r,e,h1,_,_⟩
 ·rw [← data_len,e] at hs;simp at hs
 ·unfold numV
  rw [← data_len,e,dv_cons,List.length_cons,Nat.add_sub_cancel]
  have:1 * 10 ^ r.length≤(c.toNat-48) * 10 ^ r.length:=Nat.mul_le_mul_right _ (by omega)
  omega
theorem canon_inj {s t:ByteArray} (hs:Canon s) (ht:Canon t) (h:numV s=numV t):s=t:=by
 have e:s.size=t.size:=by
  have a1:=numV_lt hs.1
  have a2:=numV_lt ht.1
  rcases Nat.lt_trichotomy s.size t.size with g | g | g
  ·have:=canon_size ht (by omega)
   have h2:10 ^ s.size≤10 ^ (t.size-1):=Nat.pow_le_pow_right (by decide) (by omega)
   omega
  ·exact g
  ·have:=canon_size hs (by omega)
   have h2:10 ^ t.size≤10 ^ (s.size-1):=Nat.pow_le_pow_right (by decide) (by omega)
   omega
 have:=(less_dv s.data.toList t.data.toList (allDig_of hs.1) (allDig_of ht.1) e).2.2 h
 cases s with | mk a=>cases t with | mk b =>
  simp only at this
  rw [Array.toList_inj.1 this]
theorem strOfNums_list (l:List Int):(strOfNums l).data.toList=l.map fun n=>UInt8.ofNat n.toNat:=by unfold strOfNums;simp
theorem numV_digN:∀ (n a:Nat),numV (strOfNums (digN n a))=a % 10 ^ n
 | 0,a=>by rw [Nat.pow_zero,Nat.mod_one];rfl
 | n+1,a=>by
   have ih:=numV_digN n (a / 10)
   unfold numV at ih ⊢
   rw [strOfNums_list] at ih ⊢
   unfold digN
   rw [List.map_append,dv_append,ih]
   have e:dv (List.map (fun n=>UInt8.ofNat n.toNat) [((a % 10:Nat):Int)+48])=a % 10:=by
    unfold dv
    simp
    omega
   rw [e,List.length_map,List.length_singleton,Nat.pow_one,Nat.pow_succ,Nat.mul_comm (10 ^ n) 10,Nat.mod_mul,Nat.mul_comm (a / 10 % 10 ^ n) 10,Nat.add_comm]
theorem digN_dig (n a:Nat):DigS (strOfNums (digN n a)):=(dig_iff _).2 fun c hc=>by
 rw [strOfNums_list] at hc
 obtain ⟨x,hx,rfl⟩:=List.mem_map.1 hc
 have:=digN_range n a x hx
 simp
 omega
theorem lt_pow10 (a:Nat):a<10 ^ (a+1):=by
 have:a<10 ^ a:=Nat.lt_pow_self (by decide)
 exact Nat.lt_of_lt_of_le this (Nat.pow_le_pow_right (by decide) (by omega))
theorem numS_canon (a:Nat):Canon (numS a):=strip_canon (digN_dig _ _)
theorem numV_numS (a:Nat):numV (numS a)=a:=by
 unfold numS
 rw [numV_strip,numV_digN,Nat.mod_eq_of_lt (lt_pow10 a)]
theorem canon_numS {s:ByteArray} (h:Canon s):numS (numV s)=s:=canon_inj (numS_canon _) h (numV_numS _)
theorem strip_digN {n a:Nat} (h:a<10 ^ n):stripS (strOfNums (digN n a))=numS a :=
 canon_inj (strip_canon (digN_dig _ _)) (numS_canon _) (by rw [numV_strip,numV_digN,numV_numS,Nat.mod_eq_of_lt h])
theorem strip_num {s:ByteArray} (h:DigS s):stripS s=numS (numV s):=canon_inj (strip_canon h) (numS_canon _) (by rw [numV_strip,numV_numS])
theorem numS_0:numS 0=⟨#[]⟩:=by rfl
theorem numS_size0 {a:Nat}:(numS a).size=0↔a=0:=by
 constructor
 ·intro h
  have:=numV_numS a
  unfold numV at this
  rw [show (numS a).data.toList=[] from List.eq_nil_of_length_eq_zero h] at this
  exact this.symm
 ·rintro rfl
  rw [numS_0]
  rfl
end Go.Proofs.YtmjfggadehkbjaaGreatDoor

/- Digits by their places: decimal.at, digits.digit, datakitref01.at. -/
namespace Go.Proofs.YtmjfggadehkbjaaGreatDoor
open Go.RowKit
def IntV (k:Int) (w:World) (e:Ending) (w':World):Prop:=e=.returned (.int .i64 k)∧w'=w
def StrV (s:ByteArray) (w:World) (e:Ending) (w':World):Prop:=e=.returned (.string s)∧Below w.heap.size w w'
theorem digA_at {s:ByteArray} {i:Nat} (hd:DigS s) (h:i<s.size):(digA s i:Int)=byteI s (s.size-1-i)-48:=by
 have:=hd (s.size-1-i) (by omega)
 unfold digA
 rw [if_pos h]
 omega
theorem digA_out {s:ByteArray} {i:Nat} (h:¬ i<s.size):(digA s i:Int)=0:=by
 unfold digA
 rw [if_neg h]
 rfl
theorem at_p (s:ByteArray) (i:Nat) (w:World) (hd:DigS s) (hs:s.size≤4294967296) (hi:i≤4294967296):Calls Tryz.prog 127 #[.string s,.int .i64 i] w (IntV (digA s i) w):=by
 by_cases h:i<s.size
 ·have hi0:(0:Int)≤(s.size:Int)-1-(i:Int):=by omega
  have hi1:(s.size:Int)-1-(i:Int)<(s.size:Int):=by omega
  have hlt2:s.size-1-i<s.size:=by omega
  have htn:((s.size:Int)-1-(i:Int)).toNat=s.size-1-i:=by omega
  have hb:=byteI_eq hlt2
  obtain ⟨hr1,hr2⟩:=hd (s.size-1-i) hlt2
  have HV:=Hd (digA_at hd h)
  clear hd
  go_enter Tryz.func127,Tryz.ntmps127
  go_wp2_with fail
  go_ret
  exact ⟨by rw [HV.out];rfl,rfl⟩
 ·have HV:=Hd (digA_out h)
  clear hd
  go_enter Tryz.func127,Tryz.ntmps127
  go_wp2_with fail
  go_ret
  exact ⟨by rw [HV.out];rfl,rfl⟩
theorem at_d (s:ByteArray) (i:Nat) (w:World) (hd:DigS s) (hs:s.size≤4294967296) (hi:i≤4294967296):Calls Tryz.prog 116 #[.string s,.int .i64 i] w (IntV (digA s i) w):=by
 by_cases h:i<s.size
 ·have hi0:(0:Int)≤(s.size:Int)-1-(i:Int):=by omega
  have hi1:(s.size:Int)-1-(i:Int)<(s.size:Int):=by omega
  have hlt2:s.size-1-i<s.size:=by omega
  have htn:((s.size:Int)-1-(i:Int)).toNat=s.size-1-i:=by omega
  have hb:=byteI_eq hlt2
  obtain ⟨hr1,hr2⟩:=hd (s.size-1-i) hlt2
  have HV:=Hd (digA_at hd h)
  clear hd
  go_enter Tryz.func116,Tryz.ntmps116
  go_wp2_with fail
  go_ret
  exact ⟨by rw [HV.out];rfl,rfl⟩
 ·have HV:=Hd (digA_out h)
  clear hd
  go_enter Tryz.func116,Tryz.ntmps116
  go_wp2_with fail
  go_ret
  exact ⟨by rw [HV.out];rfl,rfl⟩
theorem at_r (s:ByteArray) (i:Nat) (w:World) (hd:DigS s) (hs:s.size≤4294967296) (hi:i≤4294967296):Calls Tryz.prog 137 #[.string s,.int .i64 i] w (IntV (digA s i) w):=by
 by_cases h:i<s.size
 ·have hi0:(0:Int)≤(s.size:Int)-1-(i:Int):=by omega
  have hi1:(s.size:Int)-1-(i:Int)<(s.size:Int):=by omega
  have hlt2:s.size-1-i<s.size:=by omega
  have htn:((s.size:Int)-1-(i:Int)).toNat=s.size-1-i:=by omega
  have hb:=byteI_eq hlt2
  obtain ⟨hr1,hr2⟩:=hd (s.size-1-i) hlt2
  have HV:=Hd (digA_at hd h)
  clear hd
  go_enter Tryz.func137,Tryz.ntmps137
  go_wp2_with fail
  go_ret
  exact ⟨by rw [HV.out];rfl,rfl⟩
 ·have HV:=Hd (digA_out h)
  clear hd
  go_enter Tryz.func137,Tryz.ntmps137
  go_wp2_with fail
  go_ret
  exact ⟨by rw [HV.out];rfl,rfl⟩
end Go.Proofs.YtmjfggadehkbjaaGreatDoor

/- Sums and differences of strings of digits: what a round of the loops does (plain), decimal.plus, decimal.minus. -/
namespace Go.Proofs.YtmjfggadehkbjaaGreatDoor
open Go.RowKit
def carA (a b P:Nat):Nat:=(a % P+b % P) / P
theorem carA_0 (a b:Nat):carA a b 1=0:=by unfold carA;omega
theorem sum_div (a b P:Nat) (hP:0<P):(a+b) / P=a / P+b / P+carA a b P:=by
 unfold carA
 have h1:=Nat.div_add_mod a P
 have h2:=Nat.div_add_mod b P
 have e:a+b=(a % P+b % P)+P * (a / P+b / P):=by rw [Nat.mul_add];omega
 rw [e,Nat.add_mul_div_left _ _ hP]
 omega
theorem carA_next (a b P:Nat) (hP:0<P):carA a b (P * 10)=(a / P % 10+b / P % 10+carA a b P) / 10:=by
 unfold carA
 rw [Nat.mod_mul,Nat.mod_mul,← Nat.div_div_eq_div_mul]
 congr 1
 rw [show a % P+P * (a / P % 10)+(b % P+P * (b / P % 10))=(a % P+b % P)+P * (a / P % 10+b / P % 10) by rw [Nat.mul_add];omega,Nat.add_mul_div_left _ _ hP]
 omega
theorem sum_dig (a b P:Nat) (hP:0<P):(a+b) / P % 10=(a / P % 10+b / P % 10+carA a b P) % 10:=by rw [sum_div a b P hP];omega
def borA (a b P:Nat):Nat:=if a % P<b % P then 1 else 0
theorem borA_0 (a b:Nat):borA a b 1=0:=by unfold borA;rw [if_neg (by omega)]
theorem borA_le (a b P:Nat):borA a b P≤1:=by unfold borA;split<;>omega
theorem borA_next (a b P:Nat) (hP:0<P):borA a b (P * 10)=if a / P % 10<b / P % 10+borA a b P then 1 else 0:=by
 have h1:=Nat.mod_lt a hP
 have h2:=Nat.mod_lt b hP
 unfold borA
 rw [Nat.mod_mul,Nat.mod_mul]
 generalize a % P=x at *
 generalize b % P=y at *
 generalize a / P % 10=u
 generalize b / P % 10=v
 rcases Nat.lt_trichotomy u v with h | h | h
 ·have h3:P * (u+1)≤P * v:=Nat.mul_le_mul_left _ h
  rw [Nat.mul_add] at h3
  rw [if_pos (by omega)]
  split<;>rw [if_pos (by omega)]
 ·subst h
  by_cases h4:x<y
  ·rw [if_pos (by omega),if_pos h4,if_pos (by omega)]
  ·rw [if_neg (by omega),if_neg h4,if_neg (by omega)]
 ·have h3:P * (v+1)≤P * u:=Nat.mul_le_mul_left _ h
  rw [Nat.mul_add] at h3
  rw [if_neg (by omega)]
  split<;>rw [if_neg (by omega)]
theorem dif_div (a b P:Nat) (hP:0<P) (hab:b≤a):(a-b) / P=a / P-b / P-borA a b P:=by
 have h1:=Nat.div_add_mod a P
 have h2:=Nat.div_add_mod b P
 have h3:=Nat.mod_lt a hP
 have h4:=Nat.mod_lt b hP
 have hd:b / P≤a / P:=Nat.div_le_div_right hab
 unfold borA
 by_cases h:a % P<b % P
 ·rw [if_pos h]
  have hlt:b / P<a / P:=by
   rcases Nat.lt_or_ge (b / P) (a / P) with g | g
   ·exact g
   ·have:a / P=b / P:=by omega
    rw [this] at h1
    omega
  obtain ⟨d,hd2⟩:∃ d,a / P=b / P+1+d:=⟨a / P-b / P-1,by omega⟩
  have e:a-b=(P+a % P-b % P)+P * d:=by rw [hd2,Nat.mul_add,Nat.mul_add] at h1;omega
  rw [e,Nat.add_mul_div_left _ _ hP,Nat.div_eq_of_lt (by omega),hd2]
  omega
 ·rw [if_neg h]
  obtain ⟨d,hd2⟩:∃ d,a / P=b / P+d:=⟨a / P-b / P,by omega⟩
  have e:a-b=(a % P-b % P)+P * d:=by rw [hd2,Nat.mul_add] at h1;omega
  rw [e,Nat.add_mul_div_left _ _ hP,Nat.div_eq_of_lt (by omega),hd2]
  omega
theorem dif_dig (a b P:Nat) (hP:0<P) (hab:b≤a):(a-b) / P % 10=(a / P % 10+10-b / P % 10-borA a b P) % 10:=by
 rw [dif_div a b P hP hab]
 have h1:=borA_le a b P
 have hd:b / P+borA a b P≤a / P:=by
  have h:=Nat.div_le_div_right (c:=P) hab
  unfold borA
  split
  ·rename_i hlt
   rcases Nat.lt_or_ge (b / P) (a / P) with g | g
   ·omega
   ·have e:a / P=b / P:=by omega
    have q1:=Nat.div_add_mod a P
    have q2:=Nat.div_add_mod b P
    rw [e] at q1
    omega
  ·omega
 omega
def rowD (n i x:Nat):List Int:=List.replicate (n-i) 0++digN i x
theorem rowD_len {n i x:Nat} (h:i≤n):(rowD n i x).length=n:=by unfold rowD;rw [List.length_append,List.length_replicate,digN_len];omega
theorem rowD_full (n x:Nat):rowD n n x=digN n x:=by unfold rowD;rw [Nat.sub_self];rfl
theorem digN_front:∀ (i x:Nat),digN (i+1) x=(((x / 10 ^ i % 10:Nat):Int)+48)::digN i x
 | 0,x=>by unfold digN;rw [Nat.pow_zero,Nat.div_one];rfl
 | i+1,x=>by
   have ih:=digN_front i (x / 10)
   conv=>lhs;unfold digN
   rw [ih,Nat.div_div_eq_div_mul,← Nat.pow_succ']
   rfl
theorem rowD_set {n i x:Nat} (h:i<n):(rowD n i x).set (n-1-i) (((x / 10 ^ i % 10:Nat):Int)+48)=rowD n (i+1) x:=by
 unfold rowD
 rw [digN_front]
 obtain ⟨m,hm⟩:∃ m,n-i=m+1:=⟨n-i-1,by omega⟩
 rw [hm,show n-(i+1)=m by omega,show n-1-i=m by omega,List.set_append_left _ _ (by simp),List.replicate_succ' (n:=m),List.set_append_right _ _ (by simp),List.length_replicate,Nat.sub_self,List.set_cons_zero,List.append_assoc]
 rfl
theorem made_rowD (n x:Nat):(madeCells (Value.cells (.int .u8 0)) (n * 1)).toList=(rowD n 0 x).map (Value.int .u8):=by
 have:=made_zeros n
 rw [this]
 unfold zerosAt rowD digN
 simp
theorem trimS_eq (s:ByteArray):(⟨(Lib.trimLeftB s.data.toList 48).toArray⟩:ByteArray)=stripS s:=rfl
theorem pow10_pos (i:Nat):0<10 ^ i:=Nat.pow_pos (by decide)
set_option maxRecDepth 100000 in
set_option maxHeartbeats 3200000 in
theorem plus_p (a b:ByteArray) (w:World) (ha:DigS a) (hb:DigS b) (hsa:a.size≤4096) (hsb:b.size≤4096):Calls Tryz.prog 107 #[.string a,.string b] w (StrV (numS (numV a+numV b)) w):=by
 obtain ⟨i0,hin,hz0,hz1,hz2⟩:=info_parts infoU8
 obtain ⟨m,hm⟩:∃ m,m=max a.size b.size:=⟨_,rfl⟩
 have hmi:max (a.size:Int) (b.size:Int)=(m:Int):=by omega
 have hm2:m≤4096:=by omega
 obtain ⟨A,hA⟩:∃ A,A=numV a:=⟨_,rfl⟩
 obtain ⟨B,hB⟩:∃ B,B=numV b:=⟨_,rfl⟩
 have HLT:=Hd (show A+B<10 ^ (m+1) by
  have h1:=numV_lt ha
  have h2:=numV_lt hb
  have h3:10 ^ a.size≤10 ^ m:=Nat.pow_le_pow_right (by decide) (by omega)
  have h4:10 ^ b.size≤10 ^ m:=Nat.pow_le_pow_right (by decide) (by omega)
  rw [Nat.pow_succ,hA,hB]
  omega)
 have DA:=Hd (show ∀ i,digA a i=A / 10 ^ i % 10 from fun i=>by rw [digA_num ha,hA])
 have DB:=Hd (show ∀ i,digA b i=B / 10 ^ i % 10 from fun i=>by rw [digA_num hb,hB])
 have LA:=Hd (digA_le ha)
 have LB:=Hd (digA_le hb)
 have HDA:=Hd ha
 have HDB:=Hd hb
 rw [← hA,← hB]
 have HM:=Hd hm
 clear ha hb hA hB hm
 go_enter Tryz.func107,Tryz.ntmps107
 go_wp2_with (refine wpList_make_full _ rfl _ _ 26 rfl w.heap.size 5 i0 (.int .u8 0) 1 Tryz.underlying26 hin hz0 hz1 .i64 .i64 _ _ (m+1) rfl rfl rfl rfl (by rw [hz2];omega) (by unfold maxLen;omega) (Nat.le_refl _) ?_)
 intro w1 hown hgrow
 have HO:=Hd (show w1.ownsRow w.heap.size 5 1 (.slice (some ⟨w.heap.size,0,none⟩) (m+1) (m+1)) (m+1) ((rowD (m+1) 0 (A+B)).map (Value.int .u8)) by rw [← made_rowD];simpa [Value.cells] using hown)
 have HBW:=Hd (show Below w.heap.size w w1 from Below.grown (Below.refl _ _) hgrow (Nat.le_refl _) (fun j hj=>by cases hj))
 clear hown hgrow
 go_wp2_with fail
 go_simp
 go_loopw [7,18] (fun cv i wr=>∃ k c:Nat,k≤m+1∧i=.int .i64 k∧cv=.int .i64 c∧c≤1∧Hid (c=carA A B (10 ^ k))∧Hid (wr.ownsRow w.heap.size 5 1 (.slice (some ⟨w.heap.size,0,none⟩) (m+1) (m+1)) (m+1) ((rowD (m+1) k (A+B)).map (Value.int .u8)))∧Hid (Below w.heap.size w wr)) (fun _ i _=>m+1-(intOf i).toNat)
 case atStart=>exact ⟨0,0,by omega,rfl,rfl,by omega,Hd (carA_0 A B).symm,HO,HBW⟩
 case round =>
  clear HO HBW
  obtain ⟨w2,rfl⟩:∃ w2,w2=wr:=⟨wr,rfl⟩
  obtain ⟨k,c,hk,rfl,rfl,hc1,HC,HO,HBW⟩:=hrel
  by_cases hlt:k<m+1
  ·obtain ⟨u,hu⟩:∃ u,u=digA a k:=⟨_,rfl⟩
   obtain ⟨v,hv⟩:∃ v,v=digA b k:=⟨_,rfl⟩
   obtain ⟨x,hx⟩:∃ x,x=c+(u+v):=⟨_,rfl⟩
   obtain ⟨d,hd⟩:∃ d,d=x % 10:=⟨_,rfl⟩
   obtain ⟨c2,hc2⟩:∃ c2,c2=x / 10:=⟨_,rfl⟩
   obtain ⟨q,hq⟩:∃ q,q=m-k:=⟨_,rfl⟩
   obtain ⟨y,hy⟩:∃ y:Int,y=(d:Int)+48:=⟨_,rfl⟩
   have hu9:u≤9:=hu ▸ LA.out k
   have hv9:v≤9:=hv ▸ LB.out k
   have HDG:=Hd (show d=(A+B) / 10 ^ k % 10 by rw [hd,hx,sum_dig A B _ (pow10_pos k),← DA.out,← DB.out,← HC.out,← hu,← hv];omega)
   have HC2:=Hd (show c2=carA A B (10 ^ (k+1)) by rw [hc2,hx,Nat.pow_succ,carA_next A B _ (pow10_pos k),← DA.out,← DB.out,← HC.out,← hu,← hv];congr 1;omega)
   have hx1:(c:Int)+((u:Int)+(v:Int))=(x:Int):=by omega
   have htm:(x:Int).tmod 10=(d:Int):=by rw [Int.tmod_eq_emod_of_nonneg (by omega)];omega
   have htd:(x:Int).tdiv 10=(c2:Int):=by rw [Int.tdiv_eq_ediv_of_nonneg (by omega)];omega
   have hx19:x≤19:=by omega
   have hy0:48≤y:=by omega
   have hy1:y≤57:=by omega
   have hy2:(48:Int)+(d:Int)=y:=by omega
   have hqm:q<m+1:=by omega
   have hq1:(m:Int)+1-1-(k:Int)=(q:Int):=by omega
   have hq2:(m:Int)-(k:Int)=(q:Int):=by omega
   have hc21:c2≤1:=by omega
   have HU:=Hd hu
   have HV:=Hd hv
   have HY:=Hd hy
   have HQ:=Hd (show q=m+1-1-k by omega)
   have hown:=HO.out
   have hc:=hown.cellAt q (by omega)
   have hf:=hown.frozenAt q
   have hst:=Hd (hown.stored q (.int .u8 y))
   rw [List.getElem?_map,List.getElem?_eq_getElem (by rw [rowD_len hk];exact hqm),Option.map_some] at hc
   have HN:=Hd (show (w2.setCell ⟨w.heap.size,q,none⟩ (.int .u8 y)).ownsRow w.heap.size 5 1 (.slice (some ⟨w.heap.size,0,none⟩) (m+1) (m+1)) (m+1) ((rowD (m+1) (k+1) (A+B)).map (Value.int .u8)) by
    have:=hst.out.1
    rw [← rowD_set hlt,← HDG.out,← HQ.out,← HY.out]
    simpa [List.map_set] using this)
   have HB2:=Hd (show Below w.heap.size w (w2.setCell ⟨w.heap.size,q,none⟩ (.int .u8 y)) from Below.grown HBW.out hst.out.2 HBW.out.size (fun j hj=>by cases hj;exact Nat.le_refl _))
   clear hown hst hu hv hx hd hc2 hq hy HO HBW
   go_wp2_with fail
   refine (at_p a k _ HDA.out (by omega) (by omega)).mono ?_
   rintro e w3 ⟨rfl,rfl⟩
   rw [← HU.out]
   go_wp2_with fail
   refine (at_p b k _ HDB.out (by omega) (by omega)).mono ?_
   rintro e w3 ⟨rfl,rfl⟩
   rw [← HV.out]
   go_wp2_with fail
   go_roundw
   case rel=>exact ⟨k+1,c2,by omega,by go_num,rfl,hc21,HC2,HN,HB2⟩
   case measure=>simp [intOf];omega
  ·obtain rfl:k=m+1:=by omega
   have HCV:=HO.out
   rw [rowD_full] at HCV
   have hconv:=conv_owned HCV (by rw [digN_len])
   clear HCV
   go_wp2_with (go_at_call 120;refine (Tryz.strings_TrimLeft_one _ 48 (by decide) _).mono ?_;rintro e w3 ⟨rfl,rfl⟩;rw [trimS_eq,strip_digN HLT.out])
   go_ret
   exact ⟨rfl,HBW.out⟩
end Go.Proofs.YtmjfggadehkbjaaGreatDoor
