/- Numerals and decimals of the program (digits.Valid,digits.Zeros,decimal.Valid): they say yes where the reference does. -/
import Derived.Test.YticpebgjbfanpaaGreatDoorGA
import Derived.Test.YticpebgjbfanpaaGreatDoorGC
import Derived.Test.YticpebgjbfanpaaGreatDoorShelf
import Derived.Test.YticpebgjbfanpaaGreatDoorProg
import Derived.Lib.Repeat
import Derived.OwnWalk
import Derived.Laws.OwnMore
namespace Go.Proofs.YticpebgjbfanpaaGreatDoor
open Go.RowKit
def YesR (w:World) (e:Ending) (w':World):Prop:=e=.returned (.bool true)∧w=w'
theorem all_yes (s:ByteArray) (w:World) (hs:s.size≤maxLen) (hd:DigS s):Calls Tryz.prog 190 #[.string s] w (YesR w):=by
 have HD:=Hd hd
 clear hd
 unfold maxLen at hs
 go_enter Tryz.func190,Tryz.ntmps190
 go_wp2_with fail
 go_simp
 go_loop [6] (fun i=>∃ k:Nat,k≤s.size∧i=.int .i64 k) (fun i=>s.size-(intOf i).toNat)
 case atStart=>exact ⟨0,by omega,rfl⟩
 case round =>
  obtain ⟨k,hk,rfl⟩:=hrel
  by_cases hlt:k<s.size
  ·have hb:=byteI_eq hlt
   obtain ⟨h1,h2⟩:=HD.out k hlt
   have h3:¬ byteI s k<48:=by omega
   have h4:¬ 57<byteI s k:=by omega
   go_wp2_with fail
   go_round
   case rel=>exact ⟨k+1,by omega,by go_num⟩
   case measure=>simp [intOf];omega
  ·go_wp2_with fail
   go_ret
   exact ⟨rfl,rfl⟩
theorem dvalid_yes (s:ByteArray) (w:World) (h600:s.size≤600) (hd:DigS s) (h0:s.size=0∨byteI s 0≠48):Calls Tryz.prog 179 #[.string s] w (YesR w):=by
 have HD:=Hd hd
 clear hd
 have hm:s.size≤maxLen:=by unfold maxLen;omega
 by_cases hz:s.size=0
 ·have hn:=toList_nil hz
  go_enter Tryz.func179,Tryz.ntmps179
  go_wp2_with (go_at_call 190;refine (all_yes _ _ hm HD.out).mono ?_;rintro e w' ⟨rfl,rfl⟩)
  go_ret
  exact ⟨rfl,rfl⟩
 ·have hp:0<s.size:=by omega
  have hn:=ne_toList hp
  have hn1:(s.toList==[])=false:=by simp [hn]
  have hn2:s.toList.isEmpty=false:=by simp [hn]
  have hb:=byteI_eq hp
  have h48:byteI s 0≠48:=h0.resolve_left hz
  have q1:(byteI s 0 != 48)=true:=by simp [h48]
  clear h0 hz h48
  go_enter Tryz.func179,Tryz.ntmps179
  go_wp2_with (go_at_call 190;refine (all_yes _ _ hm HD.out).mono ?_;rintro e w' ⟨rfl,rfl⟩)
  go_ret
  exact ⟨rfl,rfl⟩
theorem trim_same {s:ByteArray} (hp:0<s.size) (h48:byteI s (s.size-1)≠48):(⟨(Lib.trimRightB s.data.toList 48).toArray⟩:ByteArray)=s:=by
 have hlt:s.size-1<s.size:=by omega
 have hlen:s.data.toList.length=s.size:=by rw [Array.length_toList];rfl
 have hx:s[s.size-1]≠48:=by
  intro e
  rw [← byteI_eq hlt,e] at h48
  exact h48 rfl
 have hl:s.data.toList=s.data.toList.take (s.size-1)++[s[s.size-1]]:=by
  have h1:=(List.take_append_drop (s.size-1) s.data.toList).symm
  have h2:s.data.toList.drop (s.size-1)=[s[s.size-1]]:=by
   rw [List.drop_eq_getElem_cons (by omega),List.drop_eq_nil_of_le (by omega)]
   rfl
  rw [h2] at h1
  exact h1
 have h3:Lib.trimRightB s.data.toList 48=s.data.toList:=by
  unfold Lib.trimRightB
  rw [hl,List.reverse_append,List.reverse_singleton,List.singleton_append,List.dropWhile_cons_of_neg (by simpa using hx)]
  simp
 rw [h3]
def NoZeroR (w:World) (e:Ending) (w':World):Prop:=e=.returned (.int .i64 0)∧w=w'
theorem dzeros_no (s:ByteArray) (w:World) (hs:s.size≤600) (hp:0<s.size) (h48:byteI s (s.size-1)≠48):Calls Tryz.prog 180 #[.string s] w (NoZeroR w):=by
 have ht:(⟨(Lib.trimRightB s.data.toList 48).toArray⟩:ByteArray)=s:=trim_same hp h48
 go_enter Tryz.func180,Tryz.ntmps180
 go_wp2_with fail
 refine (Tryz.strings_TrimRight_one s 48 (by decide) w (by omega)).mono ?_
 rintro e w' ⟨rfl,rfl⟩
 rw [ht]
 go_wp2_with fail
 go_ret
 exact ⟨rfl,rfl⟩
def YesB (w:World) (e:Ending) (w':World):Prop:=e=.returned (.bool true)∧Below w.heap.size w w'
set_option maxRecDepth 100000 in
set_option maxHeartbeats 1600000 in
theorem dec_valid (d:DecD) (w:World) (hv:VDec d):Calls Tryz.prog 165 #[.agg #[.bool d.neg,.string d.digits,.int .i64 d.exp]] w (YesB w):=by
 rcases hv with ⟨h0,hn,he⟩ | ⟨hp,h120,hdg,hf,hlz,he1,he2⟩
 ·have hd:=toList_nil h0
  have E1:=eqDEC0 d
  have hB:decB d ⟨false,⟨#[]⟩,0⟩=true:=by
   have:(⟨#[]⟩:ByteArray).toList=[]:=toList_nil rfl
   simp [decB,hn,he,hd,this]
  rw [hB] at E1
  have G1:=guardDEC
  clear hB h0
  go_enter Tryz.func165,Tryz.ntmps165
  go_wp2_with fail
  go_ret
  exact ⟨rfl,Below.box _ _⟩
 ·have hd:=ne_toList hp
  have hd1:(d.digits.toList==[])=false:=by simp [hd]
  have hd2:d.digits.toList.isEmpty=false:=by simp [hd]
  have HD:=Hd hdg
  have HL:=Hd hlz
  have HF:=Hd hf
  clear hdg hlz hf
  go_enter Tryz.func165,Tryz.ntmps165
  go_wp2_with (first
   | (go_at_call 179;refine (dvalid_yes _ _ (by omega) HD.out (.inr HF.out)).mono ?_;rintro e w' ⟨rfl,rfl⟩)
   | (go_at_call 180;refine (dzeros_no _ _ (by omega) hp HL.out).mono ?_;rintro e w' ⟨rfl,rfl⟩))
  go_ret
  exact ⟨rfl,Below.box _ _⟩
end Go.Proofs.YticpebgjbfanpaaGreatDoor

/- Decimal numerals as numbers;the order of strings of digits of one length is that of their numbers. -/
namespace Go.Proofs.YticpebgjbfanpaaGreatDoor
def dv (l:List UInt8):Nat:=l.foldl (fun a c=>a * 10+(c.toNat-48)) 0
def AllDig (l:List UInt8):Prop:=∀ c∈l,48≤c.toNat∧c.toNat≤57
theorem fold_acc:∀ (l:List UInt8) (a:Nat),l.foldl (fun a c=>a * 10+(c.toNat-48)) a=a * 10 ^ l.length+dv l
 | [],a=>by simp [dv]
 | c::r,a=>by
   have h1:=fold_acc r (a * 10+(c.toNat-48))
   have h2:=fold_acc r (0 * 10+(c.toNat-48))
   have h3:dv (c::r)=(0 * 10+(c.toNat-48)) * 10 ^ r.length+dv r:=by
    rw [← h2];rfl
   rw [List.foldl_cons,h1,h3,List.length_cons,Nat.pow_succ]
   generalize 10 ^ r.length=P
   have h4:(a * 10+(c.toNat-48)) * P=a * (P * 10)+(c.toNat-48) * P:=by rw [Nat.add_mul,Nat.mul_assoc,Nat.mul_comm 10 P]
   rw [h4,Nat.zero_mul,Nat.zero_add,Nat.add_assoc]
theorem dv_cons (c:UInt8) (r:List UInt8):dv (c::r)=(c.toNat-48) * 10 ^ r.length+dv r:=by
 have:=fold_acc r (0 * 10+(c.toNat-48))
 rw [Nat.zero_mul,Nat.zero_add] at this
 rw [← this]
 unfold dv
 rw [List.foldl_cons,Nat.zero_mul,Nat.zero_add]
theorem dv_snoc (l:List UInt8) (c:UInt8):dv (l++[c])=dv l * 10+(c.toNat-48):=by
 unfold dv;rw [List.foldl_append];rfl
theorem dv_lt:∀ (l:List UInt8),AllDig l→dv l<10 ^ l.length
 | [],_=>by simp [dv]
 | c::r,h=>by
   have h1:=dv_lt r (fun x hx=>h x (by simp [hx]))
   have h2:=h c (by simp)
   rw [dv_cons,List.length_cons,Nat.pow_succ]
   have h3:(c.toNat-48) * 10 ^ r.length≤9 * 10 ^ r.length:=Nat.mul_le_mul_right _ (by omega)
   omega
theorem less_dv:∀ (l m:List UInt8),AllDig l→AllDig m→l.length=m.length→Op.bytesLess l m=decide (dv l<dv m)∧(l=m↔dv l=dv m)
 | [],[],_,_,_=>by simp [Op.bytesLess,dv]
 | [],_::_,_,_,h=>by simp at h
 | _::_,[],_,_,h=>by simp at h
 | a::l,b::m,hl,hm,h=>by
   have hl':AllDig l:=fun x hx=>hl x (by simp [hx])
   have hm':AllDig m:=fun x hx=>hm x (by simp [hx])
   have hlen:l.length=m.length:=by simpa using h
   obtain ⟨i1,i2⟩:=less_dv l m hl' hm' hlen
   have ha:=hl a (by simp)
   have hb:=hm b (by simp)
   have l1:=dv_lt l hl'
   have l2:=dv_lt m hm'
   rw [dv_cons,dv_cons,hlen]
   rw [hlen] at l1
   generalize hP:10 ^ m.length=P at *
   by_cases hab:a=b
   ·subst hab
    refine ⟨?_,?_⟩
    ·simp only [Op.bytesLess]
     simp [i1]
    ·rw [List.cons.injEq]
     simp only [true_and]
     rw [i2];omega
   ·have hne:a.toNat≠b.toNat:=fun e=>hab (UInt8.toNat_inj.1 e)
    by_cases hlt:a.toNat<b.toNat
    ·have h3:(a.toNat-48+1) * P≤(b.toNat-48) * P:=Nat.mul_le_mul_right _ (by omega)
     rw [Nat.add_mul,Nat.one_mul] at h3
     refine ⟨?_,⟨fun e=>absurd (List.cons.inj e).1 hab,fun e=>by omega⟩⟩
     have hlt':a<b:=hlt
     have hd:(a.toNat-48) * P+dv l<(b.toNat-48) * P+dv m:=by omega
     simp only [Op.bytesLess]
     simp [hlt',hd]
    ·have h3:(b.toNat-48+1) * P≤(a.toNat-48) * P:=Nat.mul_le_mul_right _ (by omega)
     rw [Nat.add_mul,Nat.one_mul] at h3
     refine ⟨?_,⟨fun e=>absurd (List.cons.inj e).1 hab,fun e=>by omega⟩⟩
     have hlt':¬ a<b:=hlt
     have hd:¬ (a.toNat-48) * P+dv l<(b.toNat-48) * P+dv m:=by omega
     simp only [Op.bytesLess]
     rw [decide_eq_false hlt',decide_eq_false hd]
     simp [hab]
end Go.Proofs.YticpebgjbfanpaaGreatDoor

/- The number of a numeral (digits.ToInt,datakitref01.ToInt): both compute the same. -/
namespace Go.Proofs.YticpebgjbfanpaaGreatDoor
open Go.RowKit
def toIntF (s:ByteArray):Int×Int:=if dv s.data.toList≤9223372036854775807 then ((dv s.data.toList:Int),0) else (0,2)
theorem allDig_of {s:ByteArray} (h:DigS s):AllDig s.data.toList:=by
 intro c hc
 obtain ⟨i,hi,rfl⟩:=List.getElem_of_mem hc
 have hi':i<s.size:=by simpa using hi
 have:=h i hi'
 rw [← byteI_eq hi'] at this
 have e:s.data.toList[i]=s[i]:=rfl
 rw [e]
 omega
theorem take_snoc (s:ByteArray) (k:Nat) (h:k<s.size):s.data.toList.take (k+1)=s.data.toList.take k++[s[k]]:=by
 rw [List.take_succ_eq_append_getElem (by simpa using h)]
 rfl
theorem dv_step {s:ByteArray} {k:Nat} (h:k<s.size) (hd:DigS s):((dv (s.data.toList.take (k+1)):Nat):Int)=(dv (s.data.toList.take k):Int) * 10+(byteI s k-48):=by
 rw [take_snoc s k h,dv_snoc]
 have:=hd k h
 rw [← byteI_eq h] at this ⊢
 omega
theorem dv_mono:∀ (a b:List UInt8),dv a≤dv (a++b)
 | a,[]=>by simp
 | a,c::r=>by
   have h1:=dv_mono (a++[c]) r
   rw [dv_snoc,List.append_assoc] at h1
   have:dv a≤dv a * 10+(c.toNat-48):=by omega
   exact Nat.le_trans this h1
theorem dv_take_le (l:List UInt8) (k:Nat):dv (l.take k)≤dv l:=by
 have:=dv_mono (l.take k) (l.drop k)
 rwa [List.take_append_drop] at this
def IntR (s:ByteArray) (w:World) (e:Ending) (w':World):Prop:=e=.returned (.tuple #[.int .i64 (toIntF s).1,.int .i64 (toIntF s).2])∧w=w'
theorem wrap_48 (n b:Int) (h0:0≤n) (h1:48≤b) (h:n * 10+(b-48)≤9223372036854775807):wrap64 (wrap64 (10 * n+b)-48)=n * 10+(b-48):=by
 unfold wrap64
 omega
def maxL:List UInt8:=[57,50,50,51,51,55,50,48,51,54,56,53,52,55,55,53,56,48,55]
theorem dv_max:dv maxL=9223372036854775807:=by decide +kernel
theorem dig_max:AllDig maxL:=by unfold AllDig maxL;decide
theorem toInt_val {s:ByteArray} (hd:DigS s) (h:s.size<19∨(s.size=19∧dv s.data.toList≤9223372036854775807)):toIntF s=((dv s.data.toList:Int),0):=by
 unfold toIntF
 rw [if_pos]
 rcases h with h | h
 ·have h1:=dv_lt _ (allDig_of hd)
  have h2:10 ^ s.data.toList.length≤10 ^ 18:=Nat.pow_le_pow_right (by omega) (by simp;omega)
  omega
 ·exact h.2
theorem digits_yes (s:ByteArray) (w:World) (hs:s.size≤maxLen) (hd:DigS s):Calls Tryz.prog 156 #[.string s] w (YesR w):=by
 have HD:=Hd hd
 clear hd
 unfold maxLen at hs
 go_enter Tryz.func156,Tryz.ntmps156
 go_wp2_with fail
 go_loop [3] (fun i=>∃ k:Nat,k≤s.size∧i=.int .i64 k) (fun i=>s.size-(intOf i).toNat)
 case atStart=>exact ⟨0,by omega,rfl⟩
 case round =>
  obtain ⟨k,hk,rfl⟩:=hrel
  by_cases hlt:k<s.size
  ·have hb:=byteI_eq hlt
   obtain ⟨h1,h2⟩:=HD.out k hlt
   have h3:¬ byteI s k<48:=by omega
   have h4:¬ 57<byteI s k:=by omega
   go_wp2_with fail
   go_round
   case rel=>exact ⟨k+1,by omega,by go_num⟩
   case measure=>simp [intOf];omega
  ·go_wp2_with fail
   go_ret
   exact ⟨rfl,rfl⟩
set_option maxRecDepth 100000 in
set_option maxHeartbeats 1600000 in
theorem valid01_yes (s:ByteArray) (w:World) (h600:s.size≤600) (hd:DigS s) (h0:s.size=0∨byteI s 0≠48):Calls Tryz.prog 117 #[.string s] w (YesR w):=by
 have HD:=Hd hd
 clear hd
 have hm:s.size≤maxLen:=by unfold maxLen;omega
 by_cases hz:s.size=0
 ·have hn2:=toList_nil hz
  go_enter Tryz.func117,Tryz.ntmps117
  go_wp2_with (go_at_call 156;refine (digits_yes _ _ hm HD.out).mono ?_;rintro e w' ⟨rfl,rfl⟩)
  go_ret
  exact ⟨rfl,rfl⟩
 ·have hp:0<s.size:=by omega
  have hne:¬ s=ByteArray.empty:=by intro e;subst e;simp at hp
  have hb:=byteI_eq hp
  have h48:byteI s 0≠48:=h0.resolve_left hz
  have q1:(byteI s 0 != 48)=true:=by simp [h48]
  clear h0 hz h48
  go_enter Tryz.func117,Tryz.ntmps117
  go_wp2_with (go_at_call 156;refine (digits_yes _ _ hm HD.out).mono ?_;rintro e w' ⟨rfl,rfl⟩)
  all_goals first
   | (go_ret;exact ⟨rfl,rfl⟩)
   | (go_ret;exact ⟨by congr 2;simp [hne],rfl⟩)
theorem cmp_max {s:ByteArray} (hd:DigS s) (h19:s.size=19):Op.bytesLess s.toList maxL=decide (dv s.data.toList<9223372036854775807)∧((s.toList==maxL)=decide (dv s.data.toList=9223372036854775807)):=by
 have h:=less_dv s.data.toList maxL (allDig_of hd) dig_max (by simp [maxL];omega)
 rw [dv_max] at h
 rw [ByteArray.toList_eq]
 refine ⟨h.1,?_⟩
 rw [Bool.eq_iff_iff]
 simp only [beq_iff_eq,decide_eq_true_eq]
 exact h.2
set_option maxRecDepth 100000 in
set_option maxHeartbeats 1600000 in
theorem toInt_ref (s:ByteArray) (w:World) (h19:s.size≤19) (hd:DigS s) (h0:s.size=0∨byteI s 0≠48):Calls Tryz.prog 79 #[.string s] w (IntR s w):=by
 have HD:=Hd hd
 have H0:=Hd h0
 by_cases hbig:s.size=19∧9223372036854775807<dv s.data.toList
 ·have hc:=cmp_max hd hbig.1
  have c1:Op.bytesLess s.toList [57,50,50,51,51,55,50,48,51,54,56,53,52,55,55,53,56,48,55]=false:=by rw [show [57,50,50,51,51,55,50,48,51,54,56,53,52,55,55,53,56,48,55]=maxL from rfl,hc.1];simp;omega
  have c2:(s.toList==[57,50,50,51,51,55,50,48,51,54,56,53,52,55,55,53,56,48,55])=false:=by rw [show [57,50,50,51,51,55,50,48,51,54,56,53,52,55,55,53,56,48,55]=maxL from rfl,hc.2];simp;omega
  have c3:¬ s.toList=[57,50,50,51,51,55,50,48,51,54,56,53,52,55,55,53,56,48,55]:=by simpa using c2
  have HZ:=Hd (show toIntF s=(0,2) by unfold toIntF;rw [if_neg (by omega)])
  have hz19:(s.size:Int)=19:=by omega
  clear hd h0 hbig hc
  go_enter Tryz.func79,Tryz.ntmps79
  go_wp2_with (go_at_call 117;refine (valid01_yes _ _ (by omega) HD.out H0.out).mono ?_;rintro e w' ⟨rfl,rfl⟩)
  go_ret2
  exact ⟨by rw [HZ.out];rfl,rfl⟩
 ·have hz:=toInt_val hd (by omega)
  have HZ:=Hd hz
  have hle:dv s.data.toList≤9223372036854775807:=by
   unfold toIntF at hz
   by_cases h:dv s.data.toList≤9223372036854775807
   ·exact h
   ·rw [if_neg h] at hz;simp at hz
  have HLE:=Hd hle
  have hsplit:((s.size:Int)==19)=false∨(((s.size:Int)==19)=true∧(Op.bytesLess s.toList [57,50,50,51,51,55,50,48,51,54,56,53,52,55,55,53,56,48,55]=true∨(Op.bytesLess s.toList [57,50,50,51,51,55,50,48,51,54,56,53,52,55,55,53,56,48,55]=false∧s.toList=[57,50,50,51,51,55,50,48,51,54,56,53,52,55,55,53,56,48,55]))):=by
   by_cases h:s.size=19
   ·refine .inr ⟨by simp;omega,?_⟩
    have hc:=cmp_max hd h
    by_cases h2:dv s.data.toList<9223372036854775807
    ·exact .inl (by rw [show [57,50,50,51,51,55,50,48,51,54,56,53,52,55,55,53,56,48,55]=maxL from rfl,hc.1];simpa using h2)
    ·refine .inr ⟨by rw [show [57,50,50,51,51,55,50,48,51,54,56,53,52,55,55,53,56,48,55]=maxL from rfl,hc.1];simpa using Nat.not_lt.1 h2,?_⟩
     have:(s.toList==maxL)=true:=by rw [hc.2];simp;omega
     exact eq_of_beq this
   ·exact .inl (by simp;omega)
  clear hd h0 hbig hz hle
  rcases hsplit with g | ⟨g,g2 | ⟨g2,g3⟩⟩
  all_goals
   go_enter Tryz.func79,Tryz.ntmps79
   go_wp2_with (go_at_call 117;refine (valid01_yes _ _ (by omega) HD.out H0.out).mono ?_;rintro e w' ⟨rfl,rfl⟩)
   go_simp
   go_loop [4,5] (fun t i=>∃ k:Nat,k≤s.size∧i=.int .i64 k∧t=.int .i64 ((dv (s.data.toList.take k):Nat):Int)) (fun _ i=>s.size-(intOf i).toNat)
   case atStart=>exact ⟨0,by omega,rfl,rfl⟩
   case round =>
    obtain ⟨k,hk,rfl,rfl⟩:=hrel
    by_cases hlt:k<s.size
    ·have hb:=byteI_eq hlt
     have hst:=Hd (dv_step hlt HD.out)
     obtain ⟨h1,h2⟩:=HD.out k hlt
     have hle:=dv_take_le s.data.toList (k+1)
     have hb9:(dv (s.data.toList.take k):Int) * 10+(byteI s k-48)≤9223372036854775807:=by
      rw [← hst.out];have:=HLE.out;omega
     clear hle
     generalize hn:dv (s.data.toList.take k)=n at *
     clear hn
     have hn0:(0:Int)≤(n:Int):=by omega
     go_wp2_with fail
     go_round
     case rel=>exact ⟨k+1,by omega,by go_num,by rw [hst.out,wrap_48 _ _ hn0 h1 hb9]⟩
     case measure=>simp [intOf];omega
    ·obtain rfl:k=s.size:=by omega
     have HZ2:=Hd (show toIntF s=(((dv (s.data.toList.take s.size):Nat):Int),0) by
      have e:s.data.toList.take s.size=s.data.toList:=List.take_of_length_le (by simp)
      rw [e];exact HZ.out)
     go_wp2_with fail
     go_ret2
     exact ⟨by rw [HZ2.out];rfl,rfl⟩
end Go.Proofs.YticpebgjbfanpaaGreatDoor

/- Noughts of the reference (datakitref01): so many zeros. -/
namespace Go.Proofs.YticpebgjbfanpaaGreatDoor
open Go.RowKit
theorem infoU8:(Tryz.prog.info? 5).map (fun i=>(i.zero,i.size,i.bytes))=some (some (.int .u8 0),1,1):=by kernel_rfl
theorem conv_owned {w:World} {B n:Nat} {v:Value} {out:List Int} (h:w.ownsRow B 5 1 v n (out.map (Value.int .u8))) (hn:n=out.length) :
 (convert 27 9 v).run Tryz.prog w=.ok (.string (strOfNums out)) w:=by
 rcases h.2 with ⟨rfl,h0⟩ | ⟨g,cap,cur,rfl,hb,hg,_⟩
 ·have:out=[]:=List.length_eq_zero_iff.1 (by omega)
  subst this
  exact run_convert_bytes_nil w 27 5 Tryz.underlying27 Tryz.underlying5 0 0 9 Tryz.underlying9
 ·refine run_convert_bytes_arg w 27 5 Tryz.underlying27 Tryz.underlying5 g 0 n cap out hn.symm (fun i hi=>?_) 9 Tryz.underlying9
  have hi':i<out.length:=by omega
  have:=h.cells (g:=g) rfl i (.int .u8 (out.getD i 0)) (by simp [List.getElem?_eq_getElem hi',List.getD])
  have hadd:(⟨g,0,none⟩:Addr).add i=⟨g,i,none⟩:=by unfold Addr.add;split<;>simp_all
  rw [hadd] at this
  rw [Nat.zero_add]
  exact this
def zerosS (n:Nat):ByteArray:=strOfNums (List.replicate n 48)
def zerosAt (n k:Nat):List Int:=List.replicate k 48++List.replicate (n-k) 0
theorem zerosAt_len {n k:Nat} (h:k≤n):(zerosAt n k).length=n:=by unfold zerosAt;simp;omega
theorem zerosAt_full (n:Nat):zerosAt n n=List.replicate n 48:=by unfold zerosAt;simp
theorem zerosAt_set {n k:Nat} (h:k<n):(zerosAt n k).set k 48=zerosAt n (k+1):=by
 unfold zerosAt
 rw [List.set_append_right _ _ (by simp)]
 obtain ⟨m,hm⟩:∃ m,n-k=m+1:=⟨n-k-1,by omega⟩
 rw [hm,show n-(k+1)=m by omega,List.length_replicate,Nat.sub_self,List.replicate_succ,List.set_cons_zero,List.replicate_succ' (n:=k),List.append_assoc]
 rfl
theorem made_zeros (n:Nat):(madeCells (Value.cells (.int .u8 0)) (n * 1)).toList=(zerosAt n 0).map (Value.int .u8):=by
 apply List.ext_getElem?
 intro i
 unfold madeCells zerosAt
 by_cases h:i<n
 ·simp [h,Value.cells,Nat.mod_one]
 ·simp [h]
def NouR (n:Nat) (w:World) (e:Ending) (w':World):Prop:=e=.returned (.string (zerosS n))∧Below w.heap.size w w'
set_option maxRecDepth 100000 in
set_option maxHeartbeats 1600000 in
theorem noughts_ex (n:Nat) (w:World) (hn:n≤400):Calls Tryz.prog 78 #[.int .i64 n] w (NouR n w):=by
 obtain ⟨i0,hin,hz0,hz1,hz2⟩:=info_parts infoU8
 go_enter Tryz.func78,Tryz.ntmps78
 go_wp2_with (refine wpList_make_full _ rfl _ _ 27 rfl w.heap.size 5 i0 (.int .u8 0) 1 Tryz.underlying27 hin hz0 hz1 .i64 .i64 _ _ n rfl rfl rfl rfl (by rw [hz2];omega) (by unfold maxLen;omega) (Nat.le_refl _) ?_)
 intro w1 hown hgrow
 have HO:=Hd (show w1.ownsRow w.heap.size 5 1 (.slice (some ⟨w.heap.size,0,none⟩) n n) n ((zerosAt n 0).map (Value.int .u8)) by rw [← made_zeros];simpa [Value.cells] using hown)
 have HB:=Hd (show Below w.heap.size w w1 from Below.grown (Below.refl _ _) hgrow (Nat.le_refl _) (fun j hj=>by cases hj))
 clear hown hgrow
 go_wp2_with fail
 go_simp
 go_loopw [4] (fun i wr=>∃ k:Nat,k≤n∧i=.int .i64 k∧wr.ownsRow w.heap.size 5 1 (.slice (some ⟨w.heap.size,0,none⟩) n n) n ((zerosAt n k).map (Value.int .u8))∧Below w.heap.size w wr) (fun i _=>n-(intOf i).toNat)
 case atStart=>exact ⟨0,by omega,rfl,HO.out,HB.out⟩
 case round =>
  clear HO HB
  obtain ⟨w2,rfl⟩:∃ w2,w2=wr:=⟨wr,rfl⟩
  obtain ⟨k,hk,rfl,hown,hbel⟩:=hrel
  have HO:=Hd hown
  have HB:=Hd hbel
  by_cases hlt:k<n
  ·have hc:=hown.cellAt k (by omega)
   have hf:=hown.frozenAt k
   have hst:=Hd (hown.stored k (.int .u8 48))
   rw [List.getElem?_map,List.getElem?_eq_getElem (by rw [zerosAt_len hk];exact hlt),Option.map_some] at hc
   have HN:=Hd (show (w2.setCell ⟨w.heap.size,k,none⟩ (.int .u8 48)).ownsRow w.heap.size 5 1 (.slice (some ⟨w.heap.size,0,none⟩) n n) n ((zerosAt n (k+1)).map (Value.int .u8)) by
    have:=hst.out.1
    rw [← zerosAt_set hlt]
    simpa [List.map_set] using this)
   have HB2:=Hd (show Below w.heap.size w (w2.setCell ⟨w.heap.size,k,none⟩ (.int .u8 48)) from Below.grown hbel hst.out.2 hbel.size (fun j hj=>by cases hj;exact Nat.le_refl _))
   clear hown hbel hst
   go_wp2_with fail
   go_roundw
   case rel=>exact ⟨k+1,by omega,by go_num,HN.out,HB2.out⟩
   case measure=>simp [intOf];omega
  ·obtain rfl:n=k:=by omega
   clear hown hbel
   have HC:=HO.out
   rw [zerosAt_full] at HC
   have hconv:=conv_owned HC (by simp)
   clear HC
   go_wp2_with fail
   go_ret
   exact ⟨rfl,HB.out⟩
end Go.Proofs.YticpebgjbfanpaaGreatDoor
