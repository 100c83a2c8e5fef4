/- Letters, digits, names, keywords and identifiers of the reference (datakitref35): what they compute. -/
import Derived.Test.YtiefeajappjnbaaGreatDoorGA
import Derived.Test.YtiefeajappjnbaaGreatDoorU03
namespace Go.Proofs.YtiefeajappjnbaaGreatDoor
open Go.RowKit
def letterB (c:Int):Bool:=decide (65≤c∧c≤90) || decide (97≤c∧c≤122) || decide (c=95)
def digitB (c:Int):Bool:=decide (48≤c∧c≤57)
theorem letterR (c:Int) (w:World):Calls Tryz.prog 201 #[.int .u8 c] w fun e w'=>e=.returned (.bool (letterB c))∧w=w':=by
 have HL:=Hd (show letterB c=(decide (65≤c∧c≤90) || decide (97≤c∧c≤122) || decide (c=95)) from rfl)
 go_enter Tryz.func201,Tryz.ntmps201
 go_wp2
 all_goals
  go_ret
  refine ⟨ret_bool ?_,rfl⟩
  rw [HL.out,Bool.eq_iff_iff]
  first | (simp;done) | (simp;omega)
theorem digitR (c:Int) (w:World):Calls Tryz.prog 202 #[.int .u8 c] w fun e w'=>e=.returned (.bool (digitB c))∧w=w':=by
 have HL:=Hd (show digitB c=decide (48≤c∧c≤57) from rfl)
 go_enter Tryz.func202,Tryz.ntmps202
 go_wp2
 all_goals
  go_ret
  refine ⟨ret_bool ?_,rfl⟩
  rw [HL.out,Bool.eq_iff_iff]
  first | (simp;done) | (simp;omega)
def ld (c:UInt8):Bool:=letterB c.toNat || digitB c.toNat
def runAt (s:ByteArray) (k:Nat):Nat:=((s.data.toList.drop k).takeWhile ld).length
def nameAt (s:ByteArray) (k:Nat):Nat:=match s.data.toList.drop k with | []=>0 | c::_=>if letterB c.toNat then runAt s k else 0
theorem drop_at (s:ByteArray) (k:Nat) (h:k<s.size):s.data.toList.drop k=s[k]::s.data.toList.drop (k+1):=by
 rw [List.drop_eq_getElem_cons (by simpa using h)]
 rfl
theorem drop_end (s:ByteArray) (k:Nat) (h:s.size≤k):s.data.toList.drop k=[]:=List.drop_eq_nil_of_le (by simpa using h)
theorem runAt_end (s:ByteArray) (k:Nat) (h:s.size≤k):runAt s k=0:=by simp [runAt,drop_end s k h]
theorem runAt_stop (s:ByteArray) (k:Nat) (h:k<s.size) (h1:letterB s[k].toNat=false) (h2:digitB s[k].toNat=false):runAt s k=0:=by
 simp [runAt,drop_at s k h,ld,h1,h2]
theorem runAt_letter (s:ByteArray) (k:Nat) (h:k<s.size) (h1:letterB s[k].toNat=true):runAt s k=1+runAt s (k+1):=by
 simp [runAt,drop_at s k h,ld,h1,Nat.add_comm]
theorem runAt_digit (s:ByteArray) (k:Nat) (h:k<s.size) (h1:digitB s[k].toNat=true):runAt s k=1+runAt s (k+1):=by
 simp [runAt,drop_at s k h,ld,h1,Nat.add_comm]
theorem runAt_le (s:ByteArray) (k:Nat) (h:k≤s.size):k+runAt s k≤s.size:=by
 have h1:((s.data.toList.drop k).takeWhile ld).length≤(s.data.toList.drop k).length:=(List.takeWhile_prefix ld).length_le
 simp at h1
 unfold runAt
 have:s.data.size=s.size:=rfl
 omega
theorem nameAt_end (s:ByteArray) (k:Nat) (h:s.size≤k):nameAt s k=0:=by simp [nameAt,drop_end s k h]
theorem nameAt_letter (s:ByteArray) (k:Nat) (h:k<s.size) (h1:letterB s[k].toNat=true):nameAt s k=runAt s k:=by
 simp [nameAt,drop_at s k h,h1]
theorem nameAt_none (s:ByteArray) (k:Nat) (h:k<s.size) (h1:letterB s[k].toNat=false):nameAt s k=0:=by
 simp [nameAt,drop_at s k h,h1]
theorem nameAt_le (s:ByteArray) (k:Nat) (h:k≤s.size):k+nameAt s k≤s.size:=by
 by_cases h0:k<s.size
 ·cases h1:letterB s[k].toNat
  ·rw [nameAt_none s k h0 h1];omega
  ·rw [nameAt_letter s k h0 h1];exact runAt_le s k h
 ·rw [nameAt_end s k (by omega)];omega
set_option maxHeartbeats 800000 in
theorem followsR (s:ByteArray) (w:World) (hs:s.size≤maxLen) :
 Calls Tryz.prog 164 #[.string s] w fun e w'=>e=.returned (.int .i64 (nameAt s 0:Int))∧w=w':=by
 unfold maxLen at hs
 go_enter Tryz.func164,Tryz.ntmps164
 go_wp2_with fail
 go_loop [3] (fun k=>∃ n:Nat,n≤s.size∧k=.int .i64 n∧(n=0∨n+runAt s n=nameAt s 0)) (fun k=>s.size-(intOf k).toNat)
 case atStart=>exact ⟨0,by omega,rfl,.inl rfl⟩
 case round =>
  obtain ⟨n,hn,rfl,hr⟩:=hrel
  by_cases hlt:n<s.size
  ·cases hl:letterB s[n].toNat
   ·by_cases hz:n=0
    ·subst hz
     have HZ:=Hd (nameAt_none s 0 hlt hl)
     clear hr
     go_wp2_with (first | (go_at_call 201;refine (letterR _ _).mono ?_;rintro e w' ⟨rfl,rfl⟩) | (go_at_call 202;refine (digitR _ _).mono ?_;rintro e w' ⟨rfl,rfl⟩))
     go_ret
     exact ⟨ret_int (by have c:=HZ.out;omega),rfl⟩
    ·have HR:=Hd (show n+runAt s n=nameAt s 0 by omega)
     clear hr
     have hpos:0<n:=by omega
     cases hd:digitB s[n].toNat
     ·have HZ:=Hd (runAt_stop s n hlt hl hd)
      go_wp2_with (first | (go_at_call 201;refine (letterR _ _).mono ?_;rintro e w' ⟨rfl,rfl⟩) | (go_at_call 202;refine (digitR _ _).mono ?_;rintro e w' ⟨rfl,rfl⟩))
      go_ret
      exact ⟨ret_int (by have b:=HR.out;have c:=HZ.out;omega),rfl⟩
     ·have HZ:=Hd (runAt_digit s n hlt hd)
      go_wp2_with (first | (go_at_call 201;refine (letterR _ _).mono ?_;rintro e w' ⟨rfl,rfl⟩) | (go_at_call 202;refine (digitR _ _).mono ?_;rintro e w' ⟨rfl,rfl⟩))
      go_round
      case rel=>exact ⟨n+1,by omega,by go_num,.inr (by have b:=HR.out;have c:=HZ.out;omega)⟩
      case measure=>simp [intOf];omega
   ·have HZ:=Hd (runAt_letter s n hlt hl)
    have HR:=Hd (show n+runAt s n=nameAt s 0 from by
     rcases hr with rfl | hr
     ·rw [nameAt_letter s 0 hlt hl];omega
     ·exact hr)
    clear hr
    go_wp2_with (first | (go_at_call 201;refine (letterR _ _).mono ?_;rintro e w' ⟨rfl,rfl⟩) | (go_at_call 202;refine (digitR _ _).mono ?_;rintro e w' ⟨rfl,rfl⟩))
    go_round
    case rel=>exact ⟨n+1,by omega,by go_num,.inr (by have b:=HR.out;have c:=HZ.out;omega)⟩
    case measure=>simp [intOf];omega
  ·have HZ:=Hd (show (n:Int)=nameAt s 0 from by
    have:=runAt_end s n (by omega)
    rcases hr with rfl | hr
    ·rw [nameAt_end s 0 (by omega)]
    ·omega)
   clear hr
   go_wp2_with fail
   go_ret
   exact ⟨ret_int (by have c:=HZ.out;omega),rfl⟩
def nameB (s:ByteArray):Bool:=decide (0<s.size)&&nameAt s 0==s.size
def kws:List (List UInt8):=[[97,110,100],[97,115],[98,114,101,97,107],[99,97,116,99,104],[100,101,102],[101,108,115,101],[101,110,100],[102,97,108,115,101],[102,111,114,101,97,99,104],[105,102],[105,109,112,111,114,116],[108,97,98,101,108],[110,117,108,108],[111,114],[114,101,100,117,99,101],[116,104,101,110],[116,114,117,101],[116,114,121]]
def bs (l:List UInt8):ByteArray:=⟨l.toArray⟩
def isKw (s:ByteArray):Bool:=kws.any fun k=>s.toList==k
set_option maxHeartbeats 800000 in
theorem keywordR (s:ByteArray) (w:World):Calls Tryz.prog 122 #[.string s] w fun e w'=>e=.returned (.bool (isKw s))∧w=w':=by
 have HL:=Hd (show isKw s=kws.any (fun k=>s.toList==k) from rfl)
 go_enter Tryz.func122,Tryz.ntmps122
 go_wp2
 all_goals
  go_ret
  refine ⟨ret_bool ?_,rfl⟩
  rw [HL.out]
  simp only [kws,List.any_cons,List.any_nil]
  first | (exfalso;simp_all;done) | simp [*]
def identB (s:ByteArray):Bool:=nameB s&&decide (s.size≤64)&&!isKw s
theorem nameR (s:ByteArray) (w:World) (hs:s.size≤maxLen):Calls Tryz.prog 114 #[.string s] w fun e w'=>e=.returned (.bool (nameB s))∧w=w':=by
 have HL:=Hd (show nameB s=(decide (0<s.size)&&nameAt s 0==s.size) from rfl)
 by_cases h0:s.toList=[]
 ·have hz:s.size=0:=by
   rw [ByteArray.toList_eq] at h0
   have:s.data.size=s.size:=rfl
   rw [← this,← Array.length_toList,h0];rfl
  have HF:=Hd (show nameB s=false by simp [nameB,hz])
  go_enter Tryz.func114,Tryz.ntmps114
  go_wp2_with fail
  go_ret
  exact ⟨ret_bool HF.out.symm,rfl⟩
 ·have hz:0<s.size:=by
   rw [ByteArray.toList_eq] at h0
   have:s.data.size=s.size:=rfl
   rw [← this,← Array.length_toList]
   exact List.length_pos_iff.2 h0
  have HF:=Hd (show nameB s=(nameAt s 0==s.size) by simp [nameB,hz])
  have h1:(!s.toList.isEmpty)=true:=by simpa using h0
  go_enter Tryz.func114,Tryz.ntmps114
  go_wp2_with (go_at_call 164;refine (followsR _ _ hs).mono ?_;rintro e w' ⟨rfl,rfl⟩)
  go_ret
  refine ⟨ret_bool ?_,rfl⟩
  rw [HF.out,Bool.eq_iff_iff]
  simp;omega
theorem identR (s:ByteArray) (w:World) (hs:s.size≤maxLen):Calls Tryz.prog 76 #[.string s] w fun e w'=>e=.returned (.bool (identB s))∧w=w':=by
 have HL:=Hd (show identB s=(nameB s&&decide (s.size≤64)&&!isKw s) from rfl)
 cases hn:nameB s
 ·go_enter Tryz.func76,Tryz.ntmps76
  go_wp2_with (first | (go_at_call 114;refine (nameR _ _ hs).mono ?_;rintro e w' ⟨rfl,rfl⟩) | (go_at_call 122;refine (keywordR _ _).mono ?_;rintro e w' ⟨rfl,rfl⟩))
  go_ret
  refine ⟨ret_bool ?_,rfl⟩
  rw [HL.out]
  simp [hn]
 ·go_enter Tryz.func76,Tryz.ntmps76
  go_wp2_with (first | (go_at_call 114;refine (nameR _ _ hs).mono ?_;rintro e w' ⟨rfl,rfl⟩) | (go_at_call 122;refine (keywordR _ _).mono ?_;rintro e w' ⟨rfl,rfl⟩))
  all_goals
   go_ret
   refine ⟨ret_bool ?_,rfl⟩
   rw [HL.out,hn]
   first
    | (have h:(s.size:Int)≤64:=by assumption
       have h':s.size≤64:=by omega
       simp [h'])
    | (have h:(64:Int)<s.size:=by assumption
       have h':¬ s.size≤64:=by omega
       simp [h'])
theorem qual_any (s:ByteArray) (w:World) (hs:s.size≤1099511627776):Calls Tryz.prog 125 #[.string s] w (SomeBool w):=by
 go_enter Tryz.func125,Tryz.ntmps125
 go_wp2_with fail
 go_loop [3] (fun i=>∃ k:Nat,k≤s.size∧i=.int .i64 k) (fun i=>s.size-(intOf i).toNat)
 case atStart=>exact ⟨0,by omega,rfl⟩
 case round =>
  obtain ⟨k,hk,rfl⟩:=hrel
  by_cases hlt:k+2≤s.size
  ·have h1:(s.extract 0 k).size≤maxLen:=by unfold maxLen;simp;omega
   have h2:(s.extract (k+2) s.size).size≤maxLen:=by unfold maxLen;simp;omega
   have H1:=Hd h1
   have H2:=Hd h2
   clear h1 h2
   go_wp2_with (go_at_call 76;refine (identR _ _ (by with_reducible first | exact H1.out | exact H2.out)).mono ?_;rintro e w' ⟨rfl,rfl⟩)
   all_goals first
    | (go_ret;exact ⟨_,rfl,Below.refl _ _⟩)
    | (go_round
       case rel=>exact ⟨k+1,by omega,by go_num⟩
       case measure=>simp [intOf];omega)
  ·have H1:=Hd (show s.size≤maxLen by unfold maxLen;omega)
   go_wp2_with (go_at_call 76;refine (identR _ _ H1.out).mono ?_;rintro e w' ⟨rfl,rfl⟩)
   go_ret
   exact ⟨_,rfl,Below.refl _ _⟩
end Go.Proofs.YtiefeajappjnbaaGreatDoor

/- Letters, digits, names, keywords and identifiers of the program (qlex): the same plain functions as the reference's. -/
namespace Go.Proofs.YtiefeajappjnbaaGreatDoor
open Go.RowKit
theorem letterP (c:Int) (w:World):Calls Tryz.prog 165 #[.int .u8 c] w fun e w'=>e=.returned (.bool (letterB c))∧w=w':=by
 have HL:=Hd (show letterB c=(decide (65≤c∧c≤90) || decide (97≤c∧c≤122) || decide (c=95)) from rfl)
 go_enter Tryz.func165,Tryz.ntmps165
 go_wp2
 all_goals
  go_ret
  refine ⟨ret_bool ?_,rfl⟩
  rw [HL.out,Bool.eq_iff_iff]
  first | (simp;done) | (simp;omega)
theorem digitP (c:Int) (w:World):Calls Tryz.prog 166 #[.int .u8 c] w fun e w'=>e=.returned (.bool (digitB c))∧w=w':=by
 have HL:=Hd (show digitB c=decide (48≤c∧c≤57) from rfl)
 go_enter Tryz.func166,Tryz.ntmps166
 go_wp2
 all_goals
  go_ret
  refine ⟨ret_bool ?_,rfl⟩
  rw [HL.out,Bool.eq_iff_iff]
  first | (simp;done) | (simp;omega)
set_option maxHeartbeats 800000 in
theorem nameP (s:ByteArray) (i:Nat) (w:World) (hs:s.size≤maxLen) (hi:i≤s.size) :
 Calls Tryz.prog 117 #[.string s,.int .i64 i] w fun e w'=>e=.returned (.int .i64 ((i+nameAt s i:Nat):Int))∧w=w':=by
 unfold maxLen at hs
 by_cases h0:i<s.size
 ·cases h1:letterB s[i].toNat
  ·have HN:=Hd (nameAt_none s i h0 h1)
   go_enter Tryz.func117,Tryz.ntmps117
   go_wp2_with (go_at_call 165;refine (letterP _ _).mono ?_;rintro e w' ⟨rfl,rfl⟩)
   go_ret
   exact ⟨ret_int (by have a:=HN.out;omega),rfl⟩
  ·have HN:=Hd (nameAt_letter s i h0 h1)
   go_enter Tryz.func117,Tryz.ntmps117
   go_wp2_with (go_at_call 165;refine (letterP _ _).mono ?_;rintro e w' ⟨rfl,rfl⟩)
   go_simp
   go_loop [1] (fun k=>∃ n:Nat,n≤s.size∧k=.int .i64 n∧n+runAt s n=i+runAt s i) (fun k=>s.size-(intOf k).toNat)
   case atStart=>exact ⟨i,by omega,rfl,rfl⟩
   case round =>
    obtain ⟨n,hn,rfl,hr⟩:=hrel
    have HR:=Hd hr
    clear hr h1
    by_cases hlt:n<s.size
    ·cases hl:letterB s[n].toNat
     ·cases hd:digitB s[n].toNat
      ·have HZ:=Hd (runAt_stop s n hlt hl hd)
       go_wp2_with (first | (go_at_call 165;refine (letterP _ _).mono ?_;rintro e w' ⟨rfl,rfl⟩) | (go_at_call 166;refine (digitP _ _).mono ?_;rintro e w' ⟨rfl,rfl⟩))
       go_ret
       exact ⟨ret_int (by have a:=HN.out;have b:=HR.out;have c:=HZ.out;omega),rfl⟩
      ·have HZ:=Hd (runAt_digit s n hlt hd)
       go_wp2_with (first | (go_at_call 165;refine (letterP _ _).mono ?_;rintro e w' ⟨rfl,rfl⟩) | (go_at_call 166;refine (digitP _ _).mono ?_;rintro e w' ⟨rfl,rfl⟩))
       go_round
       case rel=>exact ⟨n+1,by omega,by go_num,by rw [← HR.out,HZ.out];omega⟩
       case measure=>simp [intOf];omega
     ·have HZ:=Hd (runAt_letter s n hlt hl)
      go_wp2_with (first | (go_at_call 165;refine (letterP _ _).mono ?_;rintro e w' ⟨rfl,rfl⟩) | (go_at_call 166;refine (digitP _ _).mono ?_;rintro e w' ⟨rfl,rfl⟩))
      go_round
      case rel=>exact ⟨n+1,by omega,by go_num,by rw [← HR.out,HZ.out];omega⟩
      case measure=>simp [intOf];omega
    ·have HZ:=Hd (runAt_end s n (by omega))
     go_wp2_with fail
     go_ret
     exact ⟨ret_int (by have a:=HN.out;have b:=HR.out;have c:=HZ.out;omega),rfl⟩
 ·have HN:=Hd (nameAt_end s i (by omega))
  go_enter Tryz.func117,Tryz.ntmps117
  go_wp2_with fail
  go_ret
  exact ⟨ret_int (by have a:=HN.out;omega),rfl⟩
def kwArr:Array Value:=(kws.map fun k=>Value.string (bs k)).toArray
theorem kwArr_size:kwArr.size=18:=rfl
def KwLaid (w:World):Prop:=∃ T fr,w.heap[2]?=some (.cells kwArr T fr)
def kwAt (k:Nat):ByteArray:=bs (kws.getD k [])
theorem bs_toList (l:List UInt8):(bs l).toList=l:=by rw [ByteArray.toList_eq];rfl
theorem idx38_0 (w:World):(Instr.index 207 (.agg kwArr) (.int .i64 ((0:Nat):Int))).run Tryz.prog w=.ok (.string (kwAt 0)) w:=by kernel_rfl
theorem idx38_1 (w:World):(Instr.index 207 (.agg kwArr) (.int .i64 ((1:Nat):Int))).run Tryz.prog w=.ok (.string (kwAt 1)) w:=by kernel_rfl
theorem idx38_2 (w:World):(Instr.index 207 (.agg kwArr) (.int .i64 ((2:Nat):Int))).run Tryz.prog w=.ok (.string (kwAt 2)) w:=by kernel_rfl
theorem idx38_3 (w:World):(Instr.index 207 (.agg kwArr) (.int .i64 ((3:Nat):Int))).run Tryz.prog w=.ok (.string (kwAt 3)) w:=by kernel_rfl
theorem idx38_4 (w:World):(Instr.index 207 (.agg kwArr) (.int .i64 ((4:Nat):Int))).run Tryz.prog w=.ok (.string (kwAt 4)) w:=by kernel_rfl
theorem idx38_5 (w:World):(Instr.index 207 (.agg kwArr) (.int .i64 ((5:Nat):Int))).run Tryz.prog w=.ok (.string (kwAt 5)) w:=by kernel_rfl
theorem idx38_6 (w:World):(Instr.index 207 (.agg kwArr) (.int .i64 ((6:Nat):Int))).run Tryz.prog w=.ok (.string (kwAt 6)) w:=by kernel_rfl
theorem idx38_7 (w:World):(Instr.index 207 (.agg kwArr) (.int .i64 ((7:Nat):Int))).run Tryz.prog w=.ok (.string (kwAt 7)) w:=by kernel_rfl
theorem idx38_8 (w:World):(Instr.index 207 (.agg kwArr) (.int .i64 ((8:Nat):Int))).run Tryz.prog w=.ok (.string (kwAt 8)) w:=by kernel_rfl
theorem idx38_9 (w:World):(Instr.index 207 (.agg kwArr) (.int .i64 ((9:Nat):Int))).run Tryz.prog w=.ok (.string (kwAt 9)) w:=by kernel_rfl
theorem idx38_10 (w:World):(Instr.index 207 (.agg kwArr) (.int .i64 ((10:Nat):Int))).run Tryz.prog w=.ok (.string (kwAt 10)) w:=by kernel_rfl
theorem idx38_11 (w:World):(Instr.index 207 (.agg kwArr) (.int .i64 ((11:Nat):Int))).run Tryz.prog w=.ok (.string (kwAt 11)) w:=by kernel_rfl
theorem idx38_12 (w:World):(Instr.index 207 (.agg kwArr) (.int .i64 ((12:Nat):Int))).run Tryz.prog w=.ok (.string (kwAt 12)) w:=by kernel_rfl
theorem idx38_13 (w:World):(Instr.index 207 (.agg kwArr) (.int .i64 ((13:Nat):Int))).run Tryz.prog w=.ok (.string (kwAt 13)) w:=by kernel_rfl
theorem idx38_14 (w:World):(Instr.index 207 (.agg kwArr) (.int .i64 ((14:Nat):Int))).run Tryz.prog w=.ok (.string (kwAt 14)) w:=by kernel_rfl
theorem idx38_15 (w:World):(Instr.index 207 (.agg kwArr) (.int .i64 ((15:Nat):Int))).run Tryz.prog w=.ok (.string (kwAt 15)) w:=by kernel_rfl
theorem idx38_16 (w:World):(Instr.index 207 (.agg kwArr) (.int .i64 ((16:Nat):Int))).run Tryz.prog w=.ok (.string (kwAt 16)) w:=by kernel_rfl
theorem idx38_17 (w:World):(Instr.index 207 (.agg kwArr) (.int .i64 ((17:Nat):Int))).run Tryz.prog w=.ok (.string (kwAt 17)) w:=by kernel_rfl
theorem idx38 (k:Nat) (hk:k<18) (w:World):(Instr.index 207 (.agg kwArr) (.int .i64 (k:Int))).run Tryz.prog w=.ok (.string (kwAt k)) w:=by
 have h:k=0∨k=1∨k=2∨k=3∨k=4∨k=5∨k=6∨k=7∨k=8∨k=9∨k=10∨k=11∨k=12∨k=13∨k=14∨k=15∨k=16∨k=17:=by omega
 rcases h with rfl | rfl | rfl | rfl | rfl | rfl | rfl | rfl | rfl | rfl | rfl | rfl | rfl | rfl | rfl | rfl | rfl | rfl
 ·exact idx38_0 w
 ·exact idx38_1 w
 ·exact idx38_2 w
 ·exact idx38_3 w
 ·exact idx38_4 w
 ·exact idx38_5 w
 ·exact idx38_6 w
 ·exact idx38_7 w
 ·exact idx38_8 w
 ·exact idx38_9 w
 ·exact idx38_10 w
 ·exact idx38_11 w
 ·exact idx38_12 w
 ·exact idx38_13 w
 ·exact idx38_14 w
 ·exact idx38_15 w
 ·exact idx38_16 w
 ·exact idx38_17 w
theorem isKw_true (s:ByteArray) (k:Nat) (hk:k<18) (h:((kwAt k).toList==s.toList)=true):isKw s=true:=by
 have e:(kwAt k).toList=s.toList:=by simpa using h
 unfold isKw
 rw [List.any_eq_true]
 refine ⟨kws.getD k [],?_,?_⟩
 ·have hk':k<kws.length:=hk
  have e2:kws.getD k []=kws[k]:=by simp [List.getD,List.getElem?_eq_getElem hk']
  rw [e2]
  exact List.getElem_mem _
 ·rw [← e];unfold kwAt;rw [bs_toList];simp
theorem isKw_false (s:ByteArray) (h:∀ j,j<18→((kwAt j).toList==s.toList)=false):isKw s=false:=by
 unfold isKw
 rw [List.any_eq_false]
 intro x hx
 obtain ⟨j,hj,rfl⟩:=List.getElem_of_mem hx
 have:=h j hj
 unfold kwAt at this
 have e2:kws.getD j []=kws[j]:=by simp [List.getD,List.getElem?_eq_getElem hj]
 rw [bs_toList,e2] at this
 have h2:kws[j]≠s.toList:=by simpa using this
 simpa using fun e:s.toList=kws[j]=>h2 e.symm
set_option maxHeartbeats 800000 in
theorem keywordP (s:ByteArray) (w:World) (hk:KwLaid w):Calls Tryz.prog 118 #[.string s] w fun e w'=>e=.returned (.bool (isKw s))∧w=w':=by
 obtain ⟨T,fr,hg⟩:=hk
 have HG:=Hd hg
 clear hg
 go_enter Tryz.func118,Tryz.ntmps118
 go_wp2_with (refine wpList_load_row rfl 207 (.global 2) rfl 2 rfl T kwArr fr _ HG.out Tryz.underlying207 rfl (by kernel_rfl) ?_)
 go_loop [6] (fun i=>∃ k:Nat,k≤18∧i=.int .i64 k∧∀ j,j<k→((kwAt j).toList==s.toList)=false) (fun i=>18-(intOf i).toNat)
 case atStart=>exact ⟨0,by omega,rfl,fun j hj=>absurd hj (by omega)⟩
 case round =>
  obtain ⟨k,hk,rfl,hr⟩:=hrel
  have HR:=Hd hr
  clear hr
  by_cases hlt:k<18
  ·have hi:=idx38 k hlt
   cases he:((kwAt k).toList==s.toList)
   ·go_wp2_with fail
    go_round
    case rel=>exact ⟨k+1,by omega,by go_num,fun j hj=>by
     by_cases e:j=k
     ·subst e;exact he
     ·exact HR.out j (by omega)⟩
    case measure=>simp [intOf];omega
   ·have HT:=Hd (isKw_true s k hlt he)
    go_wp2_with fail
    go_ret
    exact ⟨ret_bool HT.out.symm,rfl⟩
  ·obtain rfl:k=18:=by omega
   have HT:=Hd (isKw_false s HR.out)
   go_wp2_with fail
   go_ret
   exact ⟨ret_bool HT.out.symm,rfl⟩
theorem identP (s:ByteArray) (w:World) (hs:s.size≤maxLen) (hk:KwLaid w):Calls Tryz.prog 72 #[.string s] w fun e w'=>e=.returned (.bool (identB s))∧w=w':=by
 have HL:=Hd (show identB s=(nameB s&&decide (s.size≤64)&&!isKw s) from rfl)
 have HK:=Hd hk
 clear hk
 by_cases h0:s.toList=[]
 ·have hz:s.size=0:=by
   rw [ByteArray.toList_eq] at h0
   have:s.data.size=s.size:=rfl
   rw [← this,← Array.length_toList,h0];rfl
  have HF:=Hd (show nameB s=false by simp [nameB,hz])
  go_enter Tryz.func72,Tryz.ntmps72
  go_wp2_with fail
  go_ret
  refine ⟨ret_bool ?_,rfl⟩
  rw [HL.out,HF.out]
  simp
 ·have hz:0<s.size:=by
   rw [ByteArray.toList_eq] at h0
   have:s.data.size=s.size:=rfl
   rw [← this,← Array.length_toList]
   exact List.length_pos_iff.2 h0
  have HF:=Hd (show nameB s=(nameAt s 0==s.size) by simp [nameB,hz])
  have h1:(!s.toList.isEmpty)=true:=by simpa using h0
  by_cases h64:(s.size:Int)≤64
  ·go_enter Tryz.func72,Tryz.ntmps72
   go_wp2_with (first | (go_at_call 117;refine (nameP s 0 _ hs (by omega)).mono ?_;rintro e w' ⟨rfl,rfl⟩) | (go_at_call 118;refine (keywordP _ _ HK.out).mono ?_;rintro e w' ⟨rfl,rfl⟩))
   all_goals
    go_ret
    refine ⟨ret_bool ?_,rfl⟩
    have h':s.size≤64:=by omega
    rw [HL.out,HF.out]
    first
     | (have h:(nameAt s 0:Int)=s.size:=by assumption
        have h2:nameAt s 0=s.size:=by omega
        simp [h2,h'])
     | (have h:¬ (nameAt s 0:Int)=s.size:=by assumption
        have h2:¬ nameAt s 0=s.size:=by omega
        simp [h2])
  ·go_enter Tryz.func72,Tryz.ntmps72
   go_wp2_with fail
   go_ret
   refine ⟨ret_bool ?_,rfl⟩
   have h':¬ s.size≤64:=by omega
   rw [HL.out]
   simp [h']
end Go.Proofs.YtiefeajappjnbaaGreatDoor
