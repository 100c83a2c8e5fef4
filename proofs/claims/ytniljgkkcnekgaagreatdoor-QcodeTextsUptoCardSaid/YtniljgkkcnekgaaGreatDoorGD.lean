/- Letters, digits, names, keywords and identifiers of the program (qlex): the same plain functions as the reference's. -/
import Derived.Test.YtniljgkkcnekgaaGreatDoorProg
import Derived.Test.YtniljgkkcnekgaaGreatDoorGA
import Derived.Test.YtniljgkkcnekgaaGreatDoorGB
import Derived.Test.YtniljgkkcnekgaaGreatDoorShelf
import Derived.Lib.CutLaws
import Derived.Lib.Repeat
import Derived.Laws.OwnMore
import Derived.Deep.RegionLaw
import Derived.Lib.DecodeN
import Derived.Lib.ValidLaws
import Derived.Lib.RuneCountTail
import Derived.Maps.OwnOps
import Derived.Maps.OwnSet
import Derived.Maps.Views
import Derived.Deep.Light
namespace Go.Proofs.YtniljgkkcnekgaaGreatDoor
open Go.RowKit
end Go.Proofs.YtniljgkkcnekgaaGreatDoor

/- The name of a node (qparse.right, qparse.function, datakitref36.right, datakitref36.Qualified): the same test. -/
namespace Go.Proofs.YtniljgkkcnekgaaGreatDoor
open Go.RowKit
end Go.Proofs.YtniljgkkcnekgaaGreatDoor

/- qlex.bad of a valid string: nothing is bad. -/
namespace Go.Proofs.YtniljgkkcnekgaaGreatDoor
open Go.RowKit
end Go.Proofs.YtniljgkkcnekgaaGreatDoor

/- Numerals and decimals of the program (digits.Valid, digits.Zeros, decimal.Valid): they say yes where the reference does. -/
namespace Go.Proofs.YtniljgkkcnekgaaGreatDoor
open Go.RowKit
def YesR (w:World) (e:Ending) (w':World):Prop:=e=.returned (.bool true)∧w=w'
theorem all_yes (s:ByteArray) (w:World) (hs:s.size≤maxLen) (hd:DigS s):Calls Tryz.prog 127 #[.string s] w (YesR w):=by
 have HD:=Hd hd
 clear hd
 unfold maxLen at hs
 go_enter Tryz.func127,Tryz.ntmps127
 go_wp2_with fail
 go_simp
 go_loop [6] (fun i=>∃ k:Nat,k≤s.size∧i=.int .i64 k) (fun i=>s.size-(intOf i).toNat)
 case atStart=>exact ⟨0,by omega,rfl⟩
 case round =>
  obtain ⟨k,hk,rfl⟩:=hrel
  by_cases hlt:k<s.size
  ·have hb:=byteI_eq hlt
   obtain ⟨h1,h2⟩:=HD.out k hlt
   have h3:¬ byteI s k<48:=by omega
   have h4:¬ 57<byteI s k:=by omega
   go_wp2_with fail
   go_round
   case rel=>exact ⟨k+1,by omega,by go_num⟩
   case measure=>simp [intOf];omega
  ·go_wp2_with fail
   go_ret
   exact ⟨rfl,rfl⟩
theorem dvalid_yes (s:ByteArray) (w:World) (h600:s.size≤600) (hd:DigS s) (h0:s.size=0∨byteI s 0≠48):Calls Tryz.prog 108 #[.string s] w (YesR w):=by
 have HD:=Hd hd
 clear hd
 have hm:s.size≤maxLen:=by unfold maxLen;omega
 by_cases hz:s.size=0
 ·have hn:=toList_nil hz
  go_enter Tryz.func108,Tryz.ntmps108
  go_wp2_with (go_at_call 127;refine (all_yes _ _ hm HD.out).mono ?_;rintro e w' ⟨rfl,rfl⟩)
  go_ret
  exact ⟨rfl,rfl⟩
 ·have hp:0<s.size:=by omega
  have hn:=ne_toList hp
  have hn1:(s.toList==[])=false:=by simp [hn]
  have hn2:s.toList.isEmpty=false:=by simp [hn]
  have hb:=byteI_eq hp
  have h48:byteI s 0≠48:=h0.resolve_left hz
  have q1:(byteI s 0 != 48)=true:=by simp [h48]
  clear h0 hz h48
  go_enter Tryz.func108,Tryz.ntmps108
  go_wp2_with (go_at_call 127;refine (all_yes _ _ hm HD.out).mono ?_;rintro e w' ⟨rfl,rfl⟩)
  go_ret
  exact ⟨rfl,rfl⟩
theorem trim_same {s:ByteArray} (hp:0<s.size) (h48:byteI s (s.size-1)≠48):(⟨(Lib.trimRightB s.data.toList 48).toArray⟩:ByteArray)=s:=by
 have hlt:s.size-1<s.size:=by omega
 have hlen:s.data.toList.length=s.size:=by rw [Array.length_toList];rfl
 have hx:s[s.size-1]≠48:=by
  intro e
  rw [← byteI_eq hlt,e] at h48
  exact h48 rfl
 have hl:s.data.toList=s.data.toList.take (s.size-1)++[s[s.size-1]]:=by
  have h1:=(List.take_append_drop (s.size-1) s.data.toList).symm
  have h2:s.data.toList.drop (s.size-1)=[s[s.size-1]]:=by
   rw [List.drop_eq_getElem_cons (by omega),List.drop_eq_nil_of_le (by omega)]
   rfl
  rw [h2] at h1
  exact h1
 have h3:Lib.trimRightB s.data.toList 48=s.data.toList:=by
  unfold Lib.trimRightB
  rw [hl,List.reverse_append,List.reverse_singleton,List.singleton_append,List.dropWhile_cons_of_neg (by simpa using hx)]
  simp
 rw [h3]
def NoZeroR (w:World) (e:Ending) (w':World):Prop:=e=.returned (.int .i64 0)∧w=w'
theorem dzeros_no (s:ByteArray) (w:World) (hs:s.size≤600) (hp:0<s.size) (h48:byteI s (s.size-1)≠48):Calls Tryz.prog 109 #[.string s] w (NoZeroR w):=by
 have ht:(⟨(Lib.trimRightB s.data.toList 48).toArray⟩:ByteArray)=s:=trim_same hp h48
 go_enter Tryz.func109,Tryz.ntmps109
 go_wp2_with fail
 refine (Tryz.strings_TrimRight_one s 48 (by decide) w (by omega)).mono ?_
 rintro e w' ⟨rfl,rfl⟩
 rw [ht]
 go_wp2_with fail
 go_ret
 exact ⟨rfl,rfl⟩
def YesB (w:World) (e:Ending) (w':World):Prop:=e=.returned (.bool true)∧Below w.heap.size w w'
set_option maxRecDepth 100000 in
set_option maxHeartbeats 1600000 in
theorem dec_valid (d:DecD) (w:World) (hv:VDec d):Calls Tryz.prog 82 #[.agg #[.bool d.neg,.string d.digits,.int .i64 d.exp]] w (YesB w):=by
 rcases hv with ⟨h0,hn,he⟩ | ⟨hp,h120,hdg,hf,hlz,he1,he2⟩
 ·have hd:=toList_nil h0
  have E1:=eqDEC0 d
  have hB:decB d ⟨false,⟨#[]⟩,0⟩=true:=by
   have:(⟨#[]⟩:ByteArray).toList=[]:=toList_nil rfl
   simp [decB,hn,he,hd,this]
  rw [hB] at E1
  have G1:=guardDEC
  clear hB h0
  go_enter Tryz.func82,Tryz.ntmps82
  go_wp2_with fail
  go_ret
  exact ⟨rfl,Below.box _ _⟩
 ·have hd:=ne_toList hp
  have hd1:(d.digits.toList==[])=false:=by simp [hd]
  have hd2:d.digits.toList.isEmpty=false:=by simp [hd]
  have HD:=Hd hdg
  have HL:=Hd hlz
  have HF:=Hd hf
  clear hdg hlz hf
  go_enter Tryz.func82,Tryz.ntmps82
  go_wp2_with (first
   | (go_at_call 108;refine (dvalid_yes _ _ (by omega) HD.out (.inr HF.out)).mono ?_;rintro e w' ⟨rfl,rfl⟩)
   | (go_at_call 109;refine (dzeros_no _ _ (by omega) hp HL.out).mono ?_;rintro e w' ⟨rfl,rfl⟩))
  go_ret
  exact ⟨rfl,Below.box _ _⟩
end Go.Proofs.YtniljgkkcnekgaaGreatDoor

/- Decimal numerals as numbers; the order of strings of digits of one length is that of their numbers. -/
namespace Go.Proofs.YtniljgkkcnekgaaGreatDoor
end Go.Proofs.YtniljgkkcnekgaaGreatDoor

/- The number of a numeral (digits.ToInt, datakitref01.ToInt): both compute the same. -/
namespace Go.Proofs.YtniljgkkcnekgaaGreatDoor
open Go.RowKit
theorem digits_yes (s:ByteArray) (w:World) (hs:s.size≤maxLen) (hd:DigS s):Calls Tryz.prog 143 #[.string s] w (YesR w):=by
 have HD:=Hd hd
 clear hd
 unfold maxLen at hs
 go_enter Tryz.func143,Tryz.ntmps143
 go_wp2_with fail
 go_loop [3] (fun i=>∃ k:Nat,k≤s.size∧i=.int .i64 k) (fun i=>s.size-(intOf i).toNat)
 case atStart=>exact ⟨0,by omega,rfl⟩
 case round =>
  obtain ⟨k,hk,rfl⟩:=hrel
  by_cases hlt:k<s.size
  ·have hb:=byteI_eq hlt
   obtain ⟨h1,h2⟩:=HD.out k hlt
   have h3:¬ byteI s k<48:=by omega
   have h4:¬ 57<byteI s k:=by omega
   go_wp2_with fail
   go_round
   case rel=>exact ⟨k+1,by omega,by go_num⟩
   case measure=>simp [intOf];omega
  ·go_wp2_with fail
   go_ret
   exact ⟨rfl,rfl⟩
set_option maxRecDepth 100000 in
set_option maxHeartbeats 1600000 in
theorem valid01_yes (s:ByteArray) (w:World) (h600:s.size≤600) (hd:DigS s) (h0:s.size=0∨byteI s 0≠48):Calls Tryz.prog 122 #[.string s] w (YesR w):=by
 have HD:=Hd hd
 clear hd
 have hm:s.size≤maxLen:=by unfold maxLen;omega
 by_cases hz:s.size=0
 ·have hn2:=toList_nil hz
  go_enter Tryz.func122,Tryz.ntmps122
  go_wp2_with (go_at_call 143;refine (digits_yes _ _ hm HD.out).mono ?_;rintro e w' ⟨rfl,rfl⟩)
  go_ret
  exact ⟨rfl,rfl⟩
 ·have hp:0<s.size:=by omega
  have hne:¬ s=ByteArray.empty:=by intro e;subst e;simp at hp
  have hb:=byteI_eq hp
  have h48:byteI s 0≠48:=h0.resolve_left hz
  have q1:(byteI s 0 != 48)=true:=by simp [h48]
  clear h0 hz h48
  go_enter Tryz.func122,Tryz.ntmps122
  go_wp2_with (go_at_call 143;refine (digits_yes _ _ hm HD.out).mono ?_;rintro e w' ⟨rfl,rfl⟩)
  all_goals first
   | (go_ret;exact ⟨rfl,rfl⟩)
   | (go_ret;exact ⟨by congr 2;simp [hne],rfl⟩)
end Go.Proofs.YtniljgkkcnekgaaGreatDoor

/- Noughts of the reference (datakitref01): so many zeros. -/
namespace Go.Proofs.YtniljgkkcnekgaaGreatDoor
open Go.RowKit
theorem infoU8:(Tryz.prog.info? 5).map (fun i=>(i.zero,i.size,i.bytes))=some (some (.int .u8 0),1,1):=by kernel_rfl
theorem conv_owned {w:World} {B n:Nat} {v:Value} {out:List Int} (h:w.ownsRow B 5 1 v n (out.map (Value.int .u8))) (hn:n=out.length) :
 (convert 35 9 v).run Tryz.prog w=.ok (.string (strOfNums out)) w:=by
 rcases h.2 with ⟨rfl,h0⟩ | ⟨g,cap,cur,rfl,hb,hg,_⟩
 ·have:out=[]:=List.length_eq_zero_iff.1 (by omega)
  subst this
  exact run_convert_bytes_nil w 35 5 Tryz.underlying35 Tryz.underlying5 0 0 9 Tryz.underlying9
 ·refine run_convert_bytes_arg w 35 5 Tryz.underlying35 Tryz.underlying5 g 0 n cap out hn.symm (fun i hi=>?_) 9 Tryz.underlying9
  have hi':i<out.length:=by omega
  have:=h.cells (g:=g) rfl i (.int .u8 (out.getD i 0)) (by simp [List.getElem?_eq_getElem hi',List.getD])
  have hadd:(⟨g,0,none⟩:Addr).add i=⟨g,i,none⟩:=by unfold Addr.add;split<;>simp_all
  rw [hadd] at this
  rw [Nat.zero_add]
  exact this
def zerosS (n:Nat):ByteArray:=strOfNums (List.replicate n 48)
def zerosAt (n k:Nat):List Int:=List.replicate k 48++List.replicate (n-k) 0
theorem zerosAt_len {n k:Nat} (h:k≤n):(zerosAt n k).length=n:=by unfold zerosAt;simp;omega
theorem zerosAt_full (n:Nat):zerosAt n n=List.replicate n 48:=by unfold zerosAt;simp
theorem zerosAt_set {n k:Nat} (h:k<n):(zerosAt n k).set k 48=zerosAt n (k+1):=by
 unfold zerosAt
 rw [List.set_append_right _ _ (by simp)]
 obtain ⟨m,hm⟩:∃ m,n-k=m+1:=⟨n-k-1,by omega⟩
 rw [hm,show n-(k+1)=m by omega,List.length_replicate,Nat.sub_self,List.replicate_succ,List.set_cons_zero,List.replicate_succ' (n:=k),List.append_assoc]
 rfl
theorem made_zeros (n:Nat):(madeCells (Value.cells (.int .u8 0)) (n * 1)).toList=(zerosAt n 0).map (Value.int .u8):=by
 apply List.ext_getElem?
 intro i
 unfold madeCells zerosAt
 by_cases h:i<n
 ·simp [h,Value.cells,Nat.mod_one]
 ·simp [h]
def NouR (n:Nat) (w:World) (e:Ending) (w':World):Prop:=e=.returned (.string (zerosS n))∧Below w.heap.size w w'
set_option maxRecDepth 100000 in
set_option maxHeartbeats 1600000 in
theorem noughts_ex (n:Nat) (w:World) (hn:n≤400):Calls Tryz.prog 60 #[.int .i64 n] w (NouR n w):=by
 obtain ⟨i0,hin,hz0,hz1,hz2⟩:=info_parts infoU8
 go_enter Tryz.func60,Tryz.ntmps60
 go_wp2_with (refine wpList_make_full _ rfl _ _ 35 rfl w.heap.size 5 i0 (.int .u8 0) 1 Tryz.underlying35 hin hz0 hz1 .i64 .i64 _ _ n rfl rfl rfl rfl (by rw [hz2];omega) (by unfold maxLen;omega) (Nat.le_refl _) ?_)
 intro w1 hown hgrow
 have HO:=Hd (show w1.ownsRow w.heap.size 5 1 (.slice (some ⟨w.heap.size,0,none⟩) n n) n ((zerosAt n 0).map (Value.int .u8)) by rw [← made_zeros];simpa [Value.cells] using hown)
 have HB:=Hd (show Below w.heap.size w w1 from Below.grown (Below.refl _ _) hgrow (Nat.le_refl _) (fun j hj=>by cases hj))
 clear hown hgrow
 go_wp2_with fail
 go_simp
 go_loopw [4] (fun i wr=>∃ k:Nat,k≤n∧i=.int .i64 k∧wr.ownsRow w.heap.size 5 1 (.slice (some ⟨w.heap.size,0,none⟩) n n) n ((zerosAt n k).map (Value.int .u8))∧Below w.heap.size w wr) (fun i _=>n-(intOf i).toNat)
 case atStart=>exact ⟨0,by omega,rfl,HO.out,HB.out⟩
 case round =>
  clear HO HB
  obtain ⟨w2,rfl⟩:∃ w2,w2=wr:=⟨wr,rfl⟩
  obtain ⟨k,hk,rfl,hown,hbel⟩:=hrel
  have HO:=Hd hown
  have HB:=Hd hbel
  by_cases hlt:k<n
  ·have hc:=hown.cellAt k (by omega)
   have hf:=hown.frozenAt k
   have hst:=Hd (hown.stored k (.int .u8 48))
   rw [List.getElem?_map,List.getElem?_eq_getElem (by rw [zerosAt_len hk];exact hlt),Option.map_some] at hc
   have HN:=Hd (show (w2.setCell ⟨w.heap.size,k,none⟩ (.int .u8 48)).ownsRow w.heap.size 5 1 (.slice (some ⟨w.heap.size,0,none⟩) n n) n ((zerosAt n (k+1)).map (Value.int .u8)) by
    have:=hst.out.1
    rw [← zerosAt_set hlt]
    simpa [List.map_set] using this)
   have HB2:=Hd (show Below w.heap.size w (w2.setCell ⟨w.heap.size,k,none⟩ (.int .u8 48)) from Below.grown hbel hst.out.2 hbel.size (fun j hj=>by cases hj;exact Nat.le_refl _))
   clear hown hbel hst
   go_wp2_with fail
   go_roundw
   case rel=>exact ⟨k+1,by omega,by go_num,HN.out,HB2.out⟩
   case measure=>simp [intOf];omega
  ·obtain rfl:n=k:=by omega
   clear hown hbel
   have HC:=HO.out
   rw [zerosAt_full] at HC
   have hconv:=conv_owned HC (by simp)
   clear HC
   go_wp2_with fail
   go_ret
   exact ⟨rfl,HB.out⟩
theorem strOf_rep (n:Nat):((⟨(Lib.repeatL [48] n).toArray⟩:ByteArray))=zerosS n:=by
 have h:∀ n,Lib.repeatL [48] n=List.replicate n 48:=fun n=>by
  induction n with
  | zero=>rfl
  | succ n ih=>rw [Lib.repeatL,ih,List.replicate_succ];rfl
 rw [h]
 unfold zerosS strOfNums
 congr 1
 simp
end Go.Proofs.YtniljgkkcnekgaaGreatDoor

/- The source of an accepted expression, as the document has it: plain functions. No program here. -/
namespace Go.Proofs.YtniljgkkcnekgaaGreatDoor
open Go.RowKit
def hexC (d:Int):Int:=if d<10 then 48+d else 87+d
def escB (c:Int):List Int :=
 if c=34 then [92,34] else if c=92 then [92,92] else if c=8 then [92,98] else if c=12 then [92,102] else if c=10 then [92,110] else if c=13 then [92,114] else if c=9 then [92,116]
 else if c<32 then [92,117,48,48,hexC (c / 16),hexC (c % 16)] else [c]
def escL:List Int→List Int
 | []=>[]
 | c::r=>escB c++escL r
theorem escL_append:∀ (a b:List Int),escL (a++b)=escL a++escL b
 | [],b=>rfl
 | c::r,b=>by simp [escL,escL_append r b]
theorem escB_len (c:Int):(escB c).length≤6:=by unfold escB;(repeat' split)<;>simp
theorem escL_len:∀ (l:List Int),(escL l).length≤6 * l.length
 | []=>by simp [escL]
 | c::r=>by
   have:=escB_len c
   have:=escL_len r
   simp [escL];omega
def nums (s:ByteArray):List Int:=s.data.toList.map fun b=>(b.toNat:Int)
theorem nums_length (s:ByteArray):(nums s).length=s.size:=by simp [nums]
theorem nums_get (s:ByteArray) (i:Nat) (h:i<s.size):(nums s)[i]'(by rw [nums_length];exact h)=byteI s i:=by
 rw [← byteI_eq h]
 simp [nums]
 rfl
theorem esc_take {s:ByteArray} {i:Nat} (h:i<s.size):escL ((nums s).take (i+1))=escL ((nums s).take i)++escB (byteI s i):=by
 rw [List.take_succ_eq_append_getElem (by rw [nums_length];exact h),escL_append,nums_get s i h]
 simp [escL]
def quoteS (s:ByteArray):ByteArray:=strOfNums (34::(escL (nums s)++[34]))
theorem quoteS_size (s:ByteArray):(quoteS s).size≤6 * s.size+2:=by
 unfold quoteS
 rw [strOfNums_size]
 have:=escL_len (nums s)
 rw [nums_length] at this
 simp
 omega
def digL (n:Nat):List Int:=if _h:n=0 then [] else digL (n / 10)++[((48+n % 10:Nat):Int)]
termination_by n
decreasing_by omega
theorem digL_0:digL 0=[]:=by rw [digL];rfl
theorem digL_step {n:Nat} (h:n≠0):digL n=digL (n / 10)++[((48+n % 10:Nat):Int)]:=by rw [digL,dif_neg h]
theorem digL_len:∀ (k n:Nat),n<10 ^ k→(digL n).length≤k
 | 0,n,h=>by
   have:n=0:=by simpa using h
   subst this
   simp [digL_0]
 | k+1,n,h=>by
   by_cases h0:n=0
   ·subst h0;simp [digL_0]
   ·rw [digL_step h0]
    have:=digL_len k (n / 10) (by rw [Nat.pow_succ] at h;omega)
    simp
    omega
def fromI (n:Nat):ByteArray:=strOfNums (digL n)
def wholeS (n:Nat):ByteArray:=if n=0 then ⟨#[48]⟩ else fromI n
def signS (b:Bool):ByteArray:=if b then ⟨#[45]⟩ else ⟨#[]⟩
def numT (d:DecD):ByteArray :=
 if d.digits.size=0 then ⟨#[48]⟩ else
 if 0≤d.exp∧d.digits.size+d.exp≤21 then signS d.neg++d.digits++zerosS d.exp.toNat else
 if d.exp<0∧1≤d.digits.size+d.exp∧d.digits.size+d.exp≤21 then signS d.neg++d.digits.extract 0 (d.digits.size+d.exp).toNat++⟨#[46]⟩++d.digits.extract (d.digits.size+d.exp).toNat d.digits.size else
 if -5≤d.digits.size+d.exp∧d.digits.size+d.exp≤0 then signS d.neg++⟨#[48,46]⟩++zerosS (-(d.digits.size+d.exp)).toNat++d.digits else
 (if d.digits.size > 1 then signS d.neg++d.digits.extract 0 1++(⟨#[46]⟩++d.digits.extract 1 d.digits.size) else signS d.neg++d.digits.extract 0 1) ++
 (if d.digits.size+d.exp<1 then ⟨#[101,45]⟩++wholeS (1-(d.digits.size+d.exp)).toNat else ⟨#[101]⟩++wholeS (d.digits.size+d.exp-1).toNat)
end Go.Proofs.YtniljgkkcnekgaaGreatDoor

/- Quote of layer 35: its walk. -/
namespace Go.Proofs.YtniljgkkcnekgaaGreatDoor
open Go.RowKit
theorem own_one (w:World) (B:Nat) (hB:B≤w.heap.size):(w.alloc (.cells #[.int .u8 34] 5)).ownsRow B 5 1 (.slice (some ⟨w.heap.size,0,none⟩) 1 1) 1 ([34].map (Value.int .u8)) :=
 ⟨rfl,.inr ⟨w.heap.size,1,#[.int .u8 34],rfl,hB,heap_alloc_new w _,by omega,by unfold maxLen;omega,rfl,rfl⟩⟩
theorem own_mapc {w:World} {B n:Nat} {v:Value} {out l:List Int} (h:w.ownsRow B 5 1 v n (out.map (Value.int .u8)++l.map (Value.int .u8))) (hn:n=(out++l).length):w.ownsRow B 5 1 v (out++l).length ((out++l).map (Value.int .u8)):=by
 subst hn;rwa [List.map_append]
theorem byteI_range {s:ByteArray} {n:Nat} (h:n<s.size):0≤byteI s n∧byteI s n≤255:=by
 rw [← byteI_eq h]
 have:=UInt8.toNat_lt s[n]
 omega
def QRel (s:ByteArray) (w:World) (i:Nat) (v:Value) (wr:World):Prop :=
 wr.ownsRow w.heap.size 5 1 v (34::escL ((nums s).take i)).length ((34::escL ((nums s).take i)).map (Value.int .u8))∧Below w.heap.size w wr
theorem qlen {s:ByteArray} {i:Nat} (hs:s.size≤65536):(34::escL ((nums s).take i)).length≤393217:=by
 have h1:=escL_len ((nums s).take i)
 have h2:((nums s).take i).length≤s.size:=by rw [List.length_take,nums_length];omega
 simp only [List.length_cons]
 omega
theorem qnext {s:ByteArray} {w w3:World} {i n:Nat} {v':Value} {l:List Int} (hi:i<s.size) (he:escB (byteI s i)=l)
 (h:w3.ownsRow w.heap.size 5 1 v' n ((34::escL ((nums s).take i)).map (Value.int .u8)++l.map (Value.int .u8))) (hn:n=(34::escL ((nums s).take i)).length+l.length) (hb:Below w.heap.size w w3):QRel s w (i+1) v' w3:=by
 refine ⟨?_,hb⟩
 have e:(34::escL ((nums s).take (i+1)))=(34::escL ((nums s).take i))++l:=by rw [esc_take hi,he];rfl
 rw [e]
 exact own_mapc h (by rw [hn,List.length_append])
end Go.Proofs.YtniljgkkcnekgaaGreatDoor

/- The absent expression, operators' names, counts of arguments: both sides (printed by gensml.py). -/
namespace Go.Proofs.YtniljgkkcnekgaaGreatDoor
open Go.RowKit
end Go.Proofs.YtniljgkkcnekgaaGreatDoor

/- The name of a node (qparse.right, datakitref36.right): the same test. -/
namespace Go.Proofs.YtniljgkkcnekgaaGreatDoor
open Go.RowKit
end Go.Proofs.YtniljgkkcnekgaaGreatDoor
