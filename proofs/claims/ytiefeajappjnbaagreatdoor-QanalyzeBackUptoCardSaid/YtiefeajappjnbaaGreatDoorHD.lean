/- Letters, digits, names, keywords and identifiers of the reference (datakitref35): what they compute. -/
import Derived.Test.YtiefeajappjnbaaGreatDoorGA
import Derived.Test.YtiefeajappjnbaaGreatDoorU03
namespace Go.Proofs.YtiefeajappjnbaaGreatDoor
open Go.RowKit
def cD (c:Int):Bool:=decide (65≤c∧c≤90) || decide (97≤c∧c≤122) || decide (c=95)
def gC (c:Int):Bool:=decide (48≤c∧c≤57)
theorem lm (c:Int) (w:World):Calls Tryz.prog 201 #[.int .u8 c] w fun e w'=>e=.returned (.bool (cD c))∧w=w':=by
 have HL:=Hd (show cD c=(decide (65≤c∧c≤90) || decide (97≤c∧c≤122) || decide (c=95)) from rfl)
 go_enter Tryz.func201,Tryz.ntmps201
 go_wp2
 all_goals
  go_ret
  refine ⟨am ?_,rfl⟩
  rw [HL.out,Bool.eq_iff_iff]
  first | (simp;done) | (simp;omega)
theorem oL (c:Int) (w:World):Calls Tryz.prog 202 #[.int .u8 c] w fun e w'=>e=.returned (.bool (gC c))∧w=w':=by
 have HL:=Hd (show gC c=decide (48≤c∧c≤57) from rfl)
 go_enter Tryz.func202,Tryz.ntmps202
 go_wp2
 all_goals
  go_ret
  refine ⟨am ?_,rfl⟩
  rw [HL.out,Bool.eq_iff_iff]
  first | (simp;done) | (simp;omega)
def ld (c:UInt8):Bool:=cD c.toNat || gC c.toNat
def dC (s:ByteArray) (k:Nat):Nat:=((s.data.toList.drop k).takeWhile ld).length
def cd (s:ByteArray) (k:Nat):Nat:=match s.data.toList.drop k with | []=>0 | c::_=>if cD c.toNat then dC s k else 0
theorem j1 (s:ByteArray) (k:Nat) (h:k<s.size):s.data.toList.drop k=s[k]::s.data.toList.drop (k+1):=by
 rw [List.drop_eq_getElem_cons (by simpa using h)]
 rfl
theorem qp (s:ByteArray) (k:Nat) (h:s.size≤k):s.data.toList.drop k=[]:=List.drop_eq_nil_of_le (by simpa using h)
theorem nd (s:ByteArray) (k:Nat) (h:s.size≤k):dC s k=0:=by simp [dC,qp s k h]
theorem lN (s:ByteArray) (k:Nat) (h:k<s.size) (h1:cD s[k].toNat=false) (h2:gC s[k].toNat=false):dC s k=0:=by
 simp [dC,j1 s k h,ld,h1,h2]
theorem jI (s:ByteArray) (k:Nat) (h:k<s.size) (h1:cD s[k].toNat=true):dC s k=1+dC s (k+1):=by
 simp [dC,j1 s k h,ld,h1,Nat.add_comm]
theorem kK (s:ByteArray) (k:Nat) (h:k<s.size) (h1:gC s[k].toNat=true):dC s k=1+dC s (k+1):=by
 simp [dC,j1 s k h,ld,h1,Nat.add_comm]
theorem wb (s:ByteArray) (k:Nat) (h:k≤s.size):k+dC s k≤s.size:=by
 have h1:((s.data.toList.drop k).takeWhile ld).length≤(s.data.toList.drop k).length:=(List.takeWhile_prefix ld).length_le
 simp at h1
 unfold dC
 have:s.data.size=s.size:=rfl
 omega
theorem jn (s:ByteArray) (k:Nat) (h:s.size≤k):cd s k=0:=by simp [cd,qp s k h]
theorem el (s:ByteArray) (k:Nat) (h:k<s.size) (h1:cD s[k].toNat=true):cd s k=dC s k:=by
 simp [cd,j1 s k h,h1]
theorem fJ (s:ByteArray) (k:Nat) (h:k<s.size) (h1:cD s[k].toNat=false):cd s k=0:=by
 simp [cd,j1 s k h,h1]
theorem nameAt_le (s:ByteArray) (k:Nat) (h:k≤s.size):k+cd s k≤s.size:=by
 by_cases h0:k<s.size
 ·cases h1:cD s[k].toNat
  ·rw [fJ s k h0 h1];omega
  ·rw [el s k h0 h1];exact wb s k h
 ·rw [jn s k (by omega)];omega
set_option maxHeartbeats 800000 in
theorem xL (s:ByteArray) (w:World) (hs:s.size≤maxLen) :
 Calls Tryz.prog 164 #[.string s] w fun e w'=>e=.returned (.int .i64 (cd s 0:Int))∧w=w':=by
 unfold maxLen at hs
 go_enter Tryz.func164,Tryz.ntmps164
 go_wp2_with fail
 go_loop [3] (fun k=>∃ n:Nat,n≤s.size∧k=.int .i64 n∧(n=0∨n+dC s n=cd s 0)) (fun k=>s.size-(intOf k).toNat)
 case atStart=>exact ⟨0,by omega,rfl,.inl rfl⟩
 case round =>
  obtain ⟨n,hn,rfl,hr⟩:=hrel
  by_cases hlt:n<s.size
  ·cases hl:cD s[n].toNat
   ·by_cases hz:n=0
    ·subst hz
     have HZ:=Hd (fJ s 0 hlt hl)
     clear hr
     go_wp2_with (first | (go_at_call 201;refine (lm _ _).mono ?_;rintro e w' ⟨rfl,rfl⟩) | (go_at_call 202;refine (oL _ _).mono ?_;rintro e w' ⟨rfl,rfl⟩))
     go_ret
     exact ⟨aP (by have c:=HZ.out;omega),rfl⟩
    ·have HR:=Hd (show n+dC s n=cd s 0 by omega)
     clear hr
     have hpos:0<n:=by omega
     cases hd:gC s[n].toNat
     ·have HZ:=Hd (lN s n hlt hl hd)
      go_wp2_with (first | (go_at_call 201;refine (lm _ _).mono ?_;rintro e w' ⟨rfl,rfl⟩) | (go_at_call 202;refine (oL _ _).mono ?_;rintro e w' ⟨rfl,rfl⟩))
      go_ret
      exact ⟨aP (by have b:=HR.out;have c:=HZ.out;omega),rfl⟩
     ·have HZ:=Hd (kK s n hlt hd)
      go_wp2_with (first | (go_at_call 201;refine (lm _ _).mono ?_;rintro e w' ⟨rfl,rfl⟩) | (go_at_call 202;refine (oL _ _).mono ?_;rintro e w' ⟨rfl,rfl⟩))
      go_round
      case rel=>exact ⟨n+1,by omega,by go_num,.inr (by have b:=HR.out;have c:=HZ.out;omega)⟩
      case measure=>simp [intOf];omega
   ·have HZ:=Hd (jI s n hlt hl)
    have HR:=Hd (show n+dC s n=cd s 0 from by
     rcases hr with rfl | hr
     ·rw [el s 0 hlt hl];omega
     ·exact hr)
    clear hr
    go_wp2_with (first | (go_at_call 201;refine (lm _ _).mono ?_;rintro e w' ⟨rfl,rfl⟩) | (go_at_call 202;refine (oL _ _).mono ?_;rintro e w' ⟨rfl,rfl⟩))
    go_round
    case rel=>exact ⟨n+1,by omega,by go_num,.inr (by have b:=HR.out;have c:=HZ.out;omega)⟩
    case measure=>simp [intOf];omega
  ·have HZ:=Hd (show (n:Int)=cd s 0 from by
    have:=nd s n (by omega)
    rcases hr with rfl | hr
    ·rw [jn s 0 (by omega)]
    ·omega)
   clear hr
   go_wp2_with fail
   go_ret
   exact ⟨aP (by have c:=HZ.out;omega),rfl⟩
def ey (s:ByteArray):Bool:=decide (0<s.size)&&cd s 0==s.size
def kws:List (List UInt8):=[[97,110,100],[97,115],[98,114,101,97,107],[99,97,116,99,104],[100,101,102],[101,108,115,101],[101,110,100],[102,97,108,115,101],[102,111,114,101,97,99,104],[105,102],[105,109,112,111,114,116],[108,97,98,101,108],[110,117,108,108],[111,114],[114,101,100,117,99,101],[116,104,101,110],[116,114,117,101],[116,114,121]]
def bs (l:List UInt8):ByteArray:=⟨l.toArray⟩
def mM (s:ByteArray):Bool:=kws.any fun k=>s.toList==k
set_option maxHeartbeats 800000 in
theorem pV (s:ByteArray) (w:World):Calls Tryz.prog 122 #[.string s] w fun e w'=>e=.returned (.bool (mM s))∧w=w':=by
 have HL:=Hd (show mM s=kws.any (fun k=>s.toList==k) from rfl)
 go_enter Tryz.func122,Tryz.ntmps122
 go_wp2
 all_goals
  go_ret
  refine ⟨am ?_,rfl⟩
  rw [HL.out]
  simp only [kws,List.any_cons,List.any_nil]
  first | (exfalso;simp_all;done) | simp [*]
def aC (s:ByteArray):Bool:=ey s&&decide (s.size≤64)&&!mM s
theorem AN (s:ByteArray) (w:World) (hs:s.size≤maxLen):Calls Tryz.prog 114 #[.string s] w fun e w'=>e=.returned (.bool (ey s))∧w=w':=by
 have HL:=Hd (show ey s=(decide (0<s.size)&&cd s 0==s.size) from rfl)
 by_cases h0:s.toList=[]
 ·have hz:s.size=0:=by
   rw [ByteArray.toList_eq] at h0
   have:s.data.size=s.size:=rfl
   rw [← this,← Array.length_toList,h0];rfl
  have HF:=Hd (show ey s=false by simp [ey,hz])
  go_enter Tryz.func114,Tryz.ntmps114
  go_wp2_with fail
  go_ret
  exact ⟨am HF.out.symm,rfl⟩
 ·have hz:0<s.size:=by
   rw [ByteArray.toList_eq] at h0
   have:s.data.size=s.size:=rfl
   rw [← this,← Array.length_toList]
   exact List.length_pos_iff.2 h0
  have HF:=Hd (show ey s=(cd s 0==s.size) by simp [ey,hz])
  have h1:(!s.toList.isEmpty)=true:=by simpa using h0
  go_enter Tryz.func114,Tryz.ntmps114
  go_wp2_with (go_at_call 164;refine (xL _ _ hs).mono ?_;rintro e w' ⟨rfl,rfl⟩)
  go_ret
  refine ⟨am ?_,rfl⟩
  rw [HF.out,Bool.eq_iff_iff]
  simp;omega
theorem js (s:ByteArray) (w:World) (hs:s.size≤maxLen):Calls Tryz.prog 76 #[.string s] w fun e w'=>e=.returned (.bool (aC s))∧w=w':=by
 have HL:=Hd (show aC s=(ey s&&decide (s.size≤64)&&!mM s) from rfl)
 cases hn:ey s
 ·go_enter Tryz.func76,Tryz.ntmps76
  go_wp2_with (first | (go_at_call 114;refine (AN _ _ hs).mono ?_;rintro e w' ⟨rfl,rfl⟩) | (go_at_call 122;refine (pV _ _).mono ?_;rintro e w' ⟨rfl,rfl⟩))
  go_ret
  refine ⟨am ?_,rfl⟩
  rw [HL.out]
  simp [hn]
 ·go_enter Tryz.func76,Tryz.ntmps76
  go_wp2_with (first | (go_at_call 114;refine (AN _ _ hs).mono ?_;rintro e w' ⟨rfl,rfl⟩) | (go_at_call 122;refine (pV _ _).mono ?_;rintro e w' ⟨rfl,rfl⟩))
  all_goals
   go_ret
   refine ⟨am ?_,rfl⟩
   rw [HL.out,hn]
   first
    | (have h:(s.size:Int)≤64:=by assumption
       have h':s.size≤64:=by omega
       simp [h'])
    | (have h:(64:Int)<s.size:=by assumption
       have h':¬ s.size≤64:=by omega
       simp [h'])
end Go.Proofs.YtiefeajappjnbaaGreatDoor

/- Letters, digits, names, keywords and identifiers of the program (qlex): the same plain functions as the reference's. -/
namespace Go.Proofs.YtiefeajappjnbaaGreatDoor
open Go.RowKit
theorem jQ (c:Int) (w:World):Calls Tryz.prog 165 #[.int .u8 c] w fun e w'=>e=.returned (.bool (cD c))∧w=w':=by
 have HL:=Hd (show cD c=(decide (65≤c∧c≤90) || decide (97≤c∧c≤122) || decide (c=95)) from rfl)
 go_enter Tryz.func165,Tryz.ntmps165
 go_wp2
 all_goals
  go_ret
  refine ⟨am ?_,rfl⟩
  rw [HL.out,Bool.eq_iff_iff]
  first | (simp;done) | (simp;omega)
theorem rO (c:Int) (w:World):Calls Tryz.prog 166 #[.int .u8 c] w fun e w'=>e=.returned (.bool (gC c))∧w=w':=by
 have HL:=Hd (show gC c=decide (48≤c∧c≤57) from rfl)
 go_enter Tryz.func166,Tryz.ntmps166
 go_wp2
 all_goals
  go_ret
  refine ⟨am ?_,rfl⟩
  rw [HL.out,Bool.eq_iff_iff]
  first | (simp;done) | (simp;omega)
set_option maxHeartbeats 800000 in
theorem C0 (s:ByteArray) (i:Nat) (w:World) (hs:s.size≤maxLen) (hi:i≤s.size) :
 Calls Tryz.prog 117 #[.string s,.int .i64 i] w fun e w'=>e=.returned (.int .i64 ((i+cd s i:Nat):Int))∧w=w':=by
 unfold maxLen at hs
 by_cases h0:i<s.size
 ·cases h1:cD s[i].toNat
  ·have HN:=Hd (fJ s i h0 h1)
   go_enter Tryz.func117,Tryz.ntmps117
   go_wp2_with (go_at_call 165;refine (jQ _ _).mono ?_;rintro e w' ⟨rfl,rfl⟩)
   go_ret
   exact ⟨aP (by have a:=HN.out;omega),rfl⟩
  ·have HN:=Hd (el s i h0 h1)
   go_enter Tryz.func117,Tryz.ntmps117
   go_wp2_with (go_at_call 165;refine (jQ _ _).mono ?_;rintro e w' ⟨rfl,rfl⟩)
   go_simp
   go_loop [1] (fun k=>∃ n:Nat,n≤s.size∧k=.int .i64 n∧n+dC s n=i+dC s i) (fun k=>s.size-(intOf k).toNat)
   case atStart=>exact ⟨i,by omega,rfl,rfl⟩
   case round =>
    obtain ⟨n,hn,rfl,hr⟩:=hrel
    have HR:=Hd hr
    clear hr h1
    by_cases hlt:n<s.size
    ·cases hl:cD s[n].toNat
     ·cases hd:gC s[n].toNat
      ·have HZ:=Hd (lN s n hlt hl hd)
       go_wp2_with (first | (go_at_call 165;refine (jQ _ _).mono ?_;rintro e w' ⟨rfl,rfl⟩) | (go_at_call 166;refine (rO _ _).mono ?_;rintro e w' ⟨rfl,rfl⟩))
       go_ret
       exact ⟨aP (by have a:=HN.out;have b:=HR.out;have c:=HZ.out;omega),rfl⟩
      ·have HZ:=Hd (kK s n hlt hd)
       go_wp2_with (first | (go_at_call 165;refine (jQ _ _).mono ?_;rintro e w' ⟨rfl,rfl⟩) | (go_at_call 166;refine (rO _ _).mono ?_;rintro e w' ⟨rfl,rfl⟩))
       go_round
       case rel=>exact ⟨n+1,by omega,by go_num,by rw [← HR.out,HZ.out];omega⟩
       case measure=>simp [intOf];omega
     ·have HZ:=Hd (jI s n hlt hl)
      go_wp2_with (first | (go_at_call 165;refine (jQ _ _).mono ?_;rintro e w' ⟨rfl,rfl⟩) | (go_at_call 166;refine (rO _ _).mono ?_;rintro e w' ⟨rfl,rfl⟩))
      go_round
      case rel=>exact ⟨n+1,by omega,by go_num,by rw [← HR.out,HZ.out];omega⟩
      case measure=>simp [intOf];omega
    ·have HZ:=Hd (nd s n (by omega))
     go_wp2_with fail
     go_ret
     exact ⟨aP (by have a:=HN.out;have b:=HR.out;have c:=HZ.out;omega),rfl⟩
 ·have HN:=Hd (jn s i (by omega))
  go_enter Tryz.func117,Tryz.ntmps117
  go_wp2_with fail
  go_ret
  exact ⟨aP (by have a:=HN.out;omega),rfl⟩
def dp:Array Value:=(kws.map fun k=>Value.string (bs k)).toArray
def oR (w:World):Prop:=∃ T fr,w.heap[2]?=some (.cells dp T fr)
def eA (k:Nat):ByteArray:=bs (kws.getD k [])
theorem nP (l:List UInt8):(bs l).toList=l:=by rw [ByteArray.toList_eq];rfl
theorem Ab (w:World):(Instr.index 207 (.agg dp) (.int .i64 ((0:Nat):Int))).run Tryz.prog w=.ok (.string (eA 0)) w:=by kernel_rfl
theorem Aa (w:World):(Instr.index 207 (.agg dp) (.int .i64 ((1:Nat):Int))).run Tryz.prog w=.ok (.string (eA 1)) w:=by kernel_rfl
theorem z8 (w:World):(Instr.index 207 (.agg dp) (.int .i64 ((2:Nat):Int))).run Tryz.prog w=.ok (.string (eA 2)) w:=by kernel_rfl
theorem z7 (w:World):(Instr.index 207 (.agg dp) (.int .i64 ((3:Nat):Int))).run Tryz.prog w=.ok (.string (eA 3)) w:=by kernel_rfl
theorem zZ (w:World):(Instr.index 207 (.agg dp) (.int .i64 ((4:Nat):Int))).run Tryz.prog w=.ok (.string (eA 4)) w:=by kernel_rfl
theorem zY (w:World):(Instr.index 207 (.agg dp) (.int .i64 ((5:Nat):Int))).run Tryz.prog w=.ok (.string (eA 5)) w:=by kernel_rfl
theorem zX (w:World):(Instr.index 207 (.agg dp) (.int .i64 ((6:Nat):Int))).run Tryz.prog w=.ok (.string (eA 6)) w:=by kernel_rfl
theorem zW (w:World):(Instr.index 207 (.agg dp) (.int .i64 ((7:Nat):Int))).run Tryz.prog w=.ok (.string (eA 7)) w:=by kernel_rfl
theorem zV (w:World):(Instr.index 207 (.agg dp) (.int .i64 ((8:Nat):Int))).run Tryz.prog w=.ok (.string (eA 8)) w:=by kernel_rfl
theorem zU (w:World):(Instr.index 207 (.agg dp) (.int .i64 ((9:Nat):Int))).run Tryz.prog w=.ok (.string (eA 9)) w:=by kernel_rfl
theorem xw (w:World):(Instr.index 207 (.agg dp) (.int .i64 ((10:Nat):Int))).run Tryz.prog w=.ok (.string (eA 10)) w:=by kernel_rfl
theorem xv (w:World):(Instr.index 207 (.agg dp) (.int .i64 ((11:Nat):Int))).run Tryz.prog w=.ok (.string (eA 11)) w:=by kernel_rfl
theorem xu (w:World):(Instr.index 207 (.agg dp) (.int .i64 ((12:Nat):Int))).run Tryz.prog w=.ok (.string (eA 12)) w:=by kernel_rfl
theorem xt (w:World):(Instr.index 207 (.agg dp) (.int .i64 ((13:Nat):Int))).run Tryz.prog w=.ok (.string (eA 13)) w:=by kernel_rfl
theorem xq (w:World):(Instr.index 207 (.agg dp) (.int .i64 ((14:Nat):Int))).run Tryz.prog w=.ok (.string (eA 14)) w:=by kernel_rfl
theorem xp (w:World):(Instr.index 207 (.agg dp) (.int .i64 ((15:Nat):Int))).run Tryz.prog w=.ok (.string (eA 15)) w:=by kernel_rfl
theorem xo (w:World):(Instr.index 207 (.agg dp) (.int .i64 ((16:Nat):Int))).run Tryz.prog w=.ok (.string (eA 16)) w:=by kernel_rfl
theorem xn (w:World):(Instr.index 207 (.agg dp) (.int .i64 ((17:Nat):Int))).run Tryz.prog w=.ok (.string (eA 17)) w:=by kernel_rfl
theorem Df (k:Nat) (hk:k<18) (w:World):(Instr.index 207 (.agg dp) (.int .i64 (k:Int))).run Tryz.prog w=.ok (.string (eA k)) w:=by
 have h:k=0∨k=1∨k=2∨k=3∨k=4∨k=5∨k=6∨k=7∨k=8∨k=9∨k=10∨k=11∨k=12∨k=13∨k=14∨k=15∨k=16∨k=17:=by omega
 rcases h with rfl | rfl | rfl | rfl | rfl | rfl | rfl | rfl | rfl | rfl | rfl | rfl | rfl | rfl | rfl | rfl | rfl | rfl
 ·exact Ab w
 ·exact Aa w
 ·exact z8 w
 ·exact z7 w
 ·exact zZ w
 ·exact zY w
 ·exact zX w
 ·exact zW w
 ·exact zV w
 ·exact zU w
 ·exact xw w
 ·exact xv w
 ·exact xu w
 ·exact xt w
 ·exact xq w
 ·exact xp w
 ·exact xo w
 ·exact xn w
theorem uD (s:ByteArray) (k:Nat) (hk:k<18) (h:((eA k).toList==s.toList)=true):mM s=true:=by
 have e:(eA k).toList=s.toList:=by simpa using h
 unfold mM
 rw [List.any_eq_true]
 refine ⟨kws.getD k [],?_,?_⟩
 ·have hk':k<kws.length:=hk
  have e2:kws.getD k []=kws[k]:=by simp [List.getD,List.getElem?_eq_getElem hk']
  rw [e2]
  exact List.getElem_mem _
 ·rw [← e];unfold eA;rw [nP];simp
theorem rz (s:ByteArray) (h:∀ j,j<18→((eA j).toList==s.toList)=false):mM s=false:=by
 unfold mM
 rw [List.any_eq_false]
 intro x hx
 obtain ⟨j,hj,rfl⟩:=List.getElem_of_mem hx
 have:=h j hj
 unfold eA at this
 have e2:kws.getD j []=kws[j]:=by simp [List.getD,List.getElem?_eq_getElem hj]
 rw [nP,e2] at this
 have h2:kws[j]≠s.toList:=by simpa using this
 simpa using fun e:s.toList=kws[j]=>h2 e.symm
set_option maxHeartbeats 800000 in
theorem wZ (s:ByteArray) (w:World) (hk:oR w):Calls Tryz.prog 118 #[.string s] w fun e w'=>e=.returned (.bool (mM s))∧w=w':=by
 obtain ⟨T,fr,hg⟩:=hk
 have HG:=Hd hg
 clear hg
 go_enter Tryz.func118,Tryz.ntmps118
 go_wp2_with (refine wpList_load_row rfl 207 (.global 2) rfl 2 rfl T dp fr _ HG.out Tryz.underlying207 rfl (by kernel_rfl) ?_)
 go_loop [6] (fun i=>∃ k:Nat,k≤18∧i=.int .i64 k∧∀ j,j<k→((eA j).toList==s.toList)=false) (fun i=>18-(intOf i).toNat)
 case atStart=>exact ⟨0,by omega,rfl,fun j hj=>absurd hj (by omega)⟩
 case round =>
  obtain ⟨k,hk,rfl,hr⟩:=hrel
  have HR:=Hd hr
  clear hr
  by_cases hlt:k<18
  ·have hi:=Df k hlt
   cases he:((eA k).toList==s.toList)
   ·go_wp2_with fail
    go_round
    case rel=>exact ⟨k+1,by omega,by go_num,fun j hj=>by
     by_cases e:j=k
     ·subst e;exact he
     ·exact HR.out j (by omega)⟩
    case measure=>simp [intOf];omega
   ·have HT:=Hd (uD s k hlt he)
    go_wp2_with fail
    go_ret
    exact ⟨am HT.out.symm,rfl⟩
  ·obtain rfl:k=18:=by omega
   have HT:=Hd (rz s HR.out)
   go_wp2_with fail
   go_ret
   exact ⟨am HT.out.symm,rfl⟩
theorem fP (s:ByteArray) (w:World) (hs:s.size≤maxLen) (hk:oR w):Calls Tryz.prog 72 #[.string s] w fun e w'=>e=.returned (.bool (aC s))∧w=w':=by
 have HL:=Hd (show aC s=(ey s&&decide (s.size≤64)&&!mM s) from rfl)
 have HK:=Hd hk
 clear hk
 by_cases h0:s.toList=[]
 ·have hz:s.size=0:=by
   rw [ByteArray.toList_eq] at h0
   have:s.data.size=s.size:=rfl
   rw [← this,← Array.length_toList,h0];rfl
  have HF:=Hd (show ey s=false by simp [ey,hz])
  go_enter Tryz.func72,Tryz.ntmps72
  go_wp2_with fail
  go_ret
  refine ⟨am ?_,rfl⟩
  rw [HL.out,HF.out]
  simp
 ·have hz:0<s.size:=by
   rw [ByteArray.toList_eq] at h0
   have:s.data.size=s.size:=rfl
   rw [← this,← Array.length_toList]
   exact List.length_pos_iff.2 h0
  have HF:=Hd (show ey s=(cd s 0==s.size) by simp [ey,hz])
  have h1:(!s.toList.isEmpty)=true:=by simpa using h0
  by_cases h64:(s.size:Int)≤64
  ·go_enter Tryz.func72,Tryz.ntmps72
   go_wp2_with (first | (go_at_call 117;refine (C0 s 0 _ hs (by omega)).mono ?_;rintro e w' ⟨rfl,rfl⟩) | (go_at_call 118;refine (wZ _ _ HK.out).mono ?_;rintro e w' ⟨rfl,rfl⟩))
   all_goals
    go_ret
    refine ⟨am ?_,rfl⟩
    have h':s.size≤64:=by omega
    rw [HL.out,HF.out]
    first
     | (have h:(cd s 0:Int)=s.size:=by assumption
        have h2:cd s 0=s.size:=by omega
        simp [h2,h'])
     | (have h:¬ (cd s 0:Int)=s.size:=by assumption
        have h2:¬ cd s 0=s.size:=by omega
        simp [h2])
  ·go_enter Tryz.func72,Tryz.ntmps72
   go_wp2_with fail
   go_ret
   refine ⟨am ?_,rfl⟩
   have h':¬ s.size≤64:=by omega
   rw [HL.out]
   simp [h']
end Go.Proofs.YtiefeajappjnbaaGreatDoor
