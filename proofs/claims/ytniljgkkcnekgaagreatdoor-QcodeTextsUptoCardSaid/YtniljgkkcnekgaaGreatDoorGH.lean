/- Times and what a value's kind lets it have: the reference's and the program's tests compute the same. -/
import Derived.Test.YtniljgkkcnekgaaGreatDoorProg
import Derived.Test.YtniljgkkcnekgaaGreatDoorGA
import Derived.Test.YtniljgkkcnekgaaGreatDoorGB
import Derived.Test.YtniljgkkcnekgaaGreatDoorGF
import Derived.Test.YtniljgkkcnekgaaGreatDoorHN
import Derived.Deep.Light
namespace Go.Proofs.YtniljgkkcnekgaaGreatDoor
open Go.RowKit
theorem bool_of {a b:Bool} (h:a=true↔b=true):a=b:=Bool.eq_iff_iff.2 h
theorem vtimeB_iff (t:TimeD):vtimeB t=true↔(1≤t.kind∧t.kind≤4∧0≤t.day∧t.day≤3652058∧0≤t.nano∧t.nano≤86399999999999∧-1439≤t.offset∧t.offset≤1439∧(t.kind=2→t.day=0)∧(t.kind=1→t.nano=0)∧(t.kind≠4→t.offset=0)):=by
 unfold vtimeB
 rw [decide_eq_true_eq]
def dateB (k:Int):Bool:=k==1 || (k==3 || k==4)
def clockB (k:Int):Bool:=k==2 || (k==3 || k==4)
theorem dated_ex (k:Int) (w:World):Calls Tryz.prog 94 #[.int .i64 k] w fun e w'=>e=.returned (.bool (dateB k))∧w=w':=by
 have HD:=Hd (show dateB k=(k==1 || (k==3 || k==4)) from rfl)
 by_cases h1:k=1<;>by_cases h2:k=3<;>by_cases h3:k=4
 all_goals
  have H1:=Hd h1
  have H2:=Hd h2
  have H3:=Hd h3
  have e1:(k==1)=decide (k=1):=rfl
  clear h1 h2 h3 e1
  go_enter Tryz.func94,Tryz.ntmps94
  go_wp2
  all_goals
   go_ret
   refine ⟨ret_bool (bool_of ?_),rfl⟩
   rw [HD.out]
   have:=H1.out
   have:=H2.out
   have:=H3.out
   simp_all
theorem clocked_ex (k:Int) (w:World):Calls Tryz.prog 95 #[.int .i64 k] w fun e w'=>e=.returned (.bool (clockB k))∧w=w':=by
 have HD:=Hd (show clockB k=(k==2 || (k==3 || k==4)) from rfl)
 go_enter Tryz.func95,Tryz.ntmps95
 go_wp2
 all_goals
  go_ret
  refine ⟨ret_bool (bool_of ?_),rfl⟩
  rw [HD.out]
  simp_all
set_option maxRecDepth 100000 in
set_option maxHeartbeats 1600000 in
theorem valid05_ex (t:TimeD) (w:World):Calls Tryz.prog 62 #[.agg #[.int .i64 t.kind,.int .i64 t.day,.int .i64 t.nano,.int .i64 t.offset]] w (BolR (vtimeB t) w):=by
 have HV:=Hd (vtimeB_iff t)
 have HD:=Hd (show dateB t.kind=(t.kind==1 || (t.kind==3 || t.kind==4)) from rfl)
 have HC:=Hd (show clockB t.kind=(t.kind==2 || (t.kind==3 || t.kind==4)) from rfl)
 go_enter Tryz.func62,Tryz.ntmps62
 go_wp2_with (first | (go_at_call 94;refine (dated_ex _ _).mono ?_;rintro e w' ⟨rfl,rfl⟩) | (go_at_call 95;refine (clocked_ex _ _).mono ?_;rintro e w' ⟨rfl,rfl⟩))
 all_goals
  go_ret
  refine ⟨ret_bool (bool_of ?_),Below.box _ _⟩
  have hv:=HV.out
  have hd:=HD.out
  have hc:=HC.out
  clear HV HD HC
  grind
set_option maxRecDepth 100000 in
set_option maxHeartbeats 1600000 in
theorem momentValid (t:TimeD) (w:World):Calls Tryz.prog 83 #[.agg #[.int .i64 t.kind,.int .i64 t.day,.int .i64 t.nano,.int .i64 t.offset]] w (BolR (vtimeB t) w):=by
 have HV:=Hd (vtimeB_iff t)
 go_enter Tryz.func83,Tryz.ntmps83
 go_wp2
 all_goals
  go_ret
  refine ⟨ret_bool (bool_of ?_),Below.box _ _⟩
  have hv:=HV.out
  clear HV
  grind
end Go.Proofs.YtniljgkkcnekgaaGreatDoor

/- What a value's kind lets it have (datakitref07.own, value.extra): the same test. -/
namespace Go.Proofs.YtniljgkkcnekgaaGreatDoor
open Go.RowKit
theorem toList_nil_iff (a:ByteArray):a.toList=[]↔a.size=0:=by
 constructor
 ·intro e
  rcases Nat.eq_zero_or_pos a.size with h | h
  ·exact h
  ·exact absurd e (ne_toList h)
 ·exact toList_nil
theorem ownB_iff (v:ValD):ownB v=true↔(0≤v.kind∧v.kind≤7∧(v.kind≠1→v.bool=false)∧(v.kind≠2→decB v.num ⟨false,⟨#[]⟩,0⟩=true)∧(v.kind≠3→timeB v.time ⟨0,0,0,0⟩=true)∧(v.kind≠4→v.text.toList=[]) ∧
 (v.kind≠5→(v.bytes.length:Int)=0)∧(v.kind≠6→(v.list.length:Int)=0)∧(v.kind≠7→(v.fields.length:Int)=0)):=by
 unfold ownB
 rw [decide_eq_true_eq,toList_nil_iff]
 simp only [Int.natCast_eq_zero]
set_option maxRecDepth 100000 in
set_option maxHeartbeats 3200000 in
theorem own_exact (v:ValD) (w:World) (B N:Nat) (cs:List Value) (hv:ValD.At w B N v cs):Calls Tryz.prog 99 #[.agg cs.toArray] w (BolR (ownB v) w):=by
 obtain ⟨ya,la,va,yc,lc,vc,hh⟩:=hv.has
 clear hv
 have c0:=hh.kind
 have c1:=hh.bool
 have c2:=hh.neg
 have c3:=hh.digits
 have c4:=hh.exp
 have c5:=hh.tkind
 have c6:=hh.day
 have c7:=hh.nano
 have c8:=hh.offset
 have c9:=hh.text
 have c10:=hh.bytes
 have c11:=hh.list
 have c12:=hh.fields
 clear hh
 have E1:=eqDEC0 v.num
 have E2:=eqTIME0 v.time
 have G1:=guardDEC
 have G2:=guardTIME
 have HO:=Hd (ownB_iff v)
 generalize ownB v=ob at *
 generalize decB v.num ⟨false,⟨#[]⟩,0⟩=db at *
 generalize timeB v.time ⟨0,0,0,0⟩=tb at *
 generalize v.bytes.length=n1 at *
 generalize v.list.length=n2 at *
 generalize v.fields.length=n3 at *
 go_enter Tryz.func99,Tryz.ntmps99
 go_wp2
 all_goals
  go_ret
  refine ⟨ret_bool (bool_of ?_),Below.box _ _⟩
  have hv:=HO.out
  clear HO E1 E2 G1 G2 c0 c1 c2 c3 c4 c5 c6 c7 c8 c9 c10 c11 c12
  go_light
  grind
end Go.Proofs.YtniljgkkcnekgaaGreatDoor

/- The zero value. -/
namespace Go.Proofs.YtniljgkkcnekgaaGreatDoor
open Go.RowKit
end Go.Proofs.YtniljgkkcnekgaaGreatDoor

/- What the check of an expression finds (layer 36): plain functions. No program here. -/
namespace Go.Proofs.YtniljgkkcnekgaaGreatDoor
open Go.RowKit
end Go.Proofs.YtniljgkkcnekgaaGreatDoor

/- The small functions of the check of expressions, on both sides: what they give. -/
namespace Go.Proofs.YtniljgkkcnekgaaGreatDoor
open Go.RowKit
end Go.Proofs.YtniljgkkcnekgaaGreatDoor
