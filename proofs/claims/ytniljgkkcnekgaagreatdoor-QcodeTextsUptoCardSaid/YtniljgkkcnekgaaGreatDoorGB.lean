/- The functions of the reference's UTF-8 (datakitref03): they return, and write nothing that was there. -/
import Derived.Test.YtniljgkkcnekgaaGreatDoorProg
import Derived.Test.YtniljgkkcnekgaaGreatDoorGA
import Derived.WalkKit
import Derived.WalkSpells
import Derived.WalkLawsBesides
import Derived.LoopTactic
import Derived.BigQuiet
import Derived.Deep.QuietTactic
import Derived.Laws.BytesArg
import Derived.OwnWalk
namespace Go.Proofs.YtniljgkkcnekgaaGreatDoor
open Go.RowKit
theorem ret_bool {a b:Bool} (h:a=b):Ending.returned (.bool a)=.returned (.bool b):=by rw [h]
theorem ret_int {k:IntKind} {a b:Int} (h:a=b):Ending.returned (.int k a)=.returned (.int k b):=by rw [h]
theorem below_drewN (w:World) (m:Nat):Below w.heap.size w (w.drewN m):=⟨rfl,rfl,rfl,Nat.le_refl _,fun _ _=>rfl⟩
theorem conv_new (w:World) (xs:List Int) (n:Nat) (hn:xs.length=n) :
 (convert 35 9 (.slice (some ⟨w.heap.size,0,none⟩) n n)).run Tryz.prog (w.alloc (.cells (xs.map (Value.int .u8)).toArray 5))=.ok (.string (strOfNums xs)) (w.alloc (.cells (xs.map (Value.int .u8)).toArray 5)):=by
 refine run_convert_bytes_arg _ 35 5 Tryz.underlying35 Tryz.underlying5 w.heap.size 0 n n xs hn (fun i hi=>?_) 9 Tryz.underlying9
 have hi':i<xs.length:=by omega
 rw [World.cell?_alloc_new]
 simp [List.getElem?_eq_getElem hi']
@[go_sem] theorem conv_new1 (w:World) (a:Int):(convert 35 9 (.slice (some ⟨w.heap.size,0,none⟩) 1 1)).run Tryz.prog (w.alloc (.cells #[.int .u8 a] 5))=.ok (.string (strOfNums [a])) (w.alloc (.cells #[.int .u8 a] 5)):=conv_new w [a] 1 rfl
@[go_sem] theorem conv_new2 (w:World) (a b:Int):(convert 35 9 (.slice (some ⟨w.heap.size,0,none⟩) 2 2)).run Tryz.prog (w.alloc (.cells #[.int .u8 a,.int .u8 b] 5))=.ok (.string (strOfNums [a,b])) (w.alloc (.cells #[.int .u8 a,.int .u8 b] 5)):=conv_new w [a,b] 2 rfl
@[go_sem] theorem conv_new3 (w:World) (a b c:Int):(convert 35 9 (.slice (some ⟨w.heap.size,0,none⟩) 3 3)).run Tryz.prog (w.alloc (.cells #[.int .u8 a,.int .u8 b,.int .u8 c] 5))=.ok (.string (strOfNums [a,b,c])) (w.alloc (.cells #[.int .u8 a,.int .u8 b,.int .u8 c] 5)):=conv_new w [a,b,c] 3 rfl
@[go_sem] theorem conv_new4 (w:World) (a b c d:Int):(convert 35 9 (.slice (some ⟨w.heap.size,0,none⟩) 4 4)).run Tryz.prog (w.alloc (.cells #[.int .u8 a,.int .u8 b,.int .u8 c,.int .u8 d] 5))=.ok (.string (strOfNums [a,b,c,d])) (w.alloc (.cells #[.int .u8 a,.int .u8 b,.int .u8 c,.int .u8 d] 5)):=conv_new w [a,b,c,d] 4 rfl
def charB (r:Int):Bool:=decide (0≤r)&&decide (r≤1114111)&&(decide (r<55296) || decide (57343<r))
theorem char_any (r:Int) (w:World):Calls Tryz.prog 172 #[.int .i64 r] w fun e w'=>e=.returned (.bool (charB r))∧w=w':=by
 by_cases h0:0≤r<;>by_cases h1:r≤1114111<;>by_cases h2:r<55296<;>by_cases h3:57343<r <;>
 ·have hc:charB r=(decide (0≤r)&&decide (r≤1114111)&&(decide (r<55296) || decide (57343<r))):=rfl
  have HC:=Hd hc
  clear hc
  go_enter Tryz.func172,Tryz.ntmps172
  go_wp2
  go_ret
  refine ⟨ret_bool ?_,rfl⟩
  rw [HC.out]
  simp [*]
theorem info3:(Tryz.prog.info? 3).map (fun i=>(i.zero,i.size,i.bytes))=some (some (.int .i64 0),1,8):=by kernel_rfl
theorem ownsRow_lit (w:World) (e:TypeId) (x:Value):(w.alloc (.cells #[x] e)).ownsRow w.heap.size e 1 (.slice (some ⟨w.heap.size,0,none⟩) 1 1) 1 [x] :=
 ⟨by simp,.inr ⟨w.heap.size,1,#[x],rfl,Nat.le_refl _,heap_alloc_new w _,Nat.le_refl _,by decide,by simp,by simp⟩⟩
theorem ownsRow_below {w w':World} {base:Nat} {e:TypeId} {size:Nat} {v:Value} {n:Nat} {xs:List Value} (h:w.ownsRow base e size v n xs) (hb:Below w.heap.size w w'):w'.ownsRow base e size v n xs:=by
 obtain ⟨h1,h2⟩:=h
 refine ⟨h1,?_⟩
 rcases h2 with h2 | ⟨g,cap,cur,hv,hg,hh,r⟩
 ·exact Or.inl h2
 ·exact Or.inr ⟨g,cap,cur,hv,hg,by rw [hb.block g (Array.getElem?_eq_some_iff.1 hh).1];exact hh,r⟩
end Go.Proofs.YtniljgkkcnekgaaGreatDoor

/- The reference's validity of values (datakitref07.Check and what it calls): it returns, and writes nothing that was there. -/
namespace Go.Proofs.YtniljgkkcnekgaaGreatDoor
open Go.RowKit
theorem Below.then {a b c:World} (h:Below a.heap.size a b) (k:Below b.heap.size b c):Below a.heap.size a c:=h.trans (k.mono h.size)
theorem Below.box (w:World) (o:Obj):Below w.heap.size w (w.alloc o):=(Below.refl _ _).alloc (Nat.le_refl _) _
theorem box_at (w:World) (cs:List Value) (t:TypeId):CellsAt (w.alloc (.cells cs.toArray t)) w.heap.size 0 cs:=fun j _=>by
 rw [World.cell?_alloc_new];simp
theorem CellsAt.then {w w':World} {b o:Nat} {cs:List Value} (h:CellsAt w b o cs) (hb:Below w.heap.size w w') (hlt:b<w.heap.size):CellsAt w' b o cs:=h.below hb hlt
theorem CellsAt.get0 {w:World} {b:Nat} {cs:List Value} (h:CellsAt w b 0 cs) {j:Nat} {v:Value} (hv:cs[j]?=some v):w.cell? ⟨b,j,none⟩=some v:=by
 have:=h j (List.getElem?_eq_some_iff.1 hv).1
 rw [Nat.zero_add] at this
 rw [this,hv]
theorem sizeV:(Tryz.prog.info? 39).map (·.size)=some 13:=by kernel_rfl
def decB (x y:DecD):Bool:=x.neg==y.neg&&(x.digits.toList==y.digits.toList&&x.exp==y.exp)
def timeB (x y:TimeD):Bool:=x.kind==y.kind&&(x.day==y.day&&(x.nano==y.nano&&x.offset==y.offset))
theorem eqDEC (x y:DecD) (w:World):(Op.equalIn 10000 32 (.agg #[.bool x.neg,.string x.digits,.int .i64 x.exp]) (.agg #[.bool y.neg,.string y.digits,.int .i64 y.exp])).run Tryz.prog w=.ok (decB x y) w:=by
 have u3:=Tryz.underlying3
 have a3:=Tryz.isAgg3
 have z3:=Tryz.sizeOf3
 have u4:=Tryz.underlying4
 have a4:=Tryz.isAgg4
 have z4:=Tryz.sizeOf4
 have u9:=Tryz.underlying9
 have a9:=Tryz.isAgg9
 have z9:=Tryz.sizeOf9
 have hS:Tryz.prog.underlying 32=some (.struct (Tryz.prog.fieldsOf 32)):=by kernel_rfl
 have hp:Tryz.prog.stoodInHeld 32=false:=by kernel_rfl
 rw [show (10000:Nat)=9999+1 from rfl,run_equalIn_agg w 9999 32 _ _ hS hp]
 simp only [Program.fieldsOf,Tryz.underlying32]
 go_simp
 unfold decB
 by_cases h1:x.neg=y.neg<;>by_cases h2:x.digits.toList=y.digits.toList<;>by_cases h3:x.exp=y.exp<;>simp [h1,h2,h3]
theorem eqTIME (x y:TimeD) (w:World):(Op.equalIn 10000 34 (.agg #[.int .i64 x.kind,.int .i64 x.day,.int .i64 x.nano,.int .i64 x.offset]) (.agg #[.int .i64 y.kind,.int .i64 y.day,.int .i64 y.nano,.int .i64 y.offset])).run Tryz.prog w=.ok (timeB x y) w:=by
 have u3:=Tryz.underlying3
 have a3:=Tryz.isAgg3
 have z3:=Tryz.sizeOf3
 have hS:Tryz.prog.underlying 34=some (.struct (Tryz.prog.fieldsOf 34)):=by kernel_rfl
 have hp:Tryz.prog.stoodInHeld 34=false:=by kernel_rfl
 rw [show (10000:Nat)=9999+1 from rfl,run_equalIn_agg w 9999 34 _ _ hS hp]
 simp only [Program.fieldsOf,Tryz.underlying34]
 go_simp
 unfold timeB
 by_cases h1:x.kind=y.kind<;>by_cases h2:x.day=y.day<;>by_cases h3:x.nano=y.nano<;>by_cases h4:x.offset=y.offset<;>simp [h1,h2,h3,h4]
theorem guardDEC:Program.eqGuardType Tryz.prog Tryz.prog.depth 32=false:=by kernel_rfl
theorem guardTIME:Program.eqGuardType Tryz.prog Tryz.prog.depth 34=false:=by kernel_rfl
theorem eqDEC0 (x:DecD) (w:World):(Op.equalIn 10000 32 (.agg #[.bool x.neg,.string x.digits,.int .i64 x.exp]) (.agg #[.bool false,.string ⟨#[]⟩,.int .i64 0])).run Tryz.prog w=.ok (decB x ⟨false,⟨#[]⟩,0⟩) w:=eqDEC x ⟨false,⟨#[]⟩,0⟩ w
theorem eqTIME0 (x:TimeD) (w:World):(Op.equalIn 10000 34 (.agg #[.int .i64 x.kind,.int .i64 x.day,.int .i64 x.nano,.int .i64 x.offset]) (.agg #[.int .i64 0,.int .i64 0,.int .i64 0,.int .i64 0])).run Tryz.prog w=.ok (timeB x ⟨0,0,0,0⟩) w:=eqTIME x ⟨0,0,0,0⟩ w
end Go.Proofs.YtniljgkkcnekgaaGreatDoor

/- The reference's validity of values, on: keys, one value, the values in it, all of it. -/
namespace Go.Proofs.YtniljgkkcnekgaaGreatDoor
open Go.RowKit
theorem belowThen {a b c:World} (h:Below a.heap.size a b) (k:Below b.heap.size b c):Below a.heap.size a c:=h.trans (k.mono h.size)
theorem belowBox (w:World) (o:Obj):Below w.heap.size w (w.alloc o):=(Below.refl _ _).alloc (Nat.le_refl _) _
theorem below_drewN' {w wr:World} (h:∃ m,wr=w.drewN m):Below w.heap.size w wr:=by
 obtain ⟨m,rfl⟩:=h
 exact below_drewN w m
end Go.Proofs.YtniljgkkcnekgaaGreatDoor

/- Valid decimals of the reference (datakitref02.Valid): what it means that it says yes. -/
namespace Go.Proofs.YtniljgkkcnekgaaGreatDoor
open Go.RowKit
def byteI (s:ByteArray) (n:Nat):Int:=if h:n<s.size then s[n].toNat else -1
theorem byteI_eq {s:ByteArray} {n:Nat} (h:n<s.size):(s[n].toNat:Int)=byteI s n:=by simp [byteI,h]
def DigS (s:ByteArray):Prop:=∀ i,i<s.size→48≤byteI s i∧byteI s i≤57
def VDec (d:DecD):Prop :=
 (d.digits.size=0∧d.neg=false∧d.exp=0) ∨
 (0<d.digits.size∧d.digits.size≤120∧DigS d.digits∧byteI d.digits 0≠48∧byteI d.digits (d.digits.size-1)≠48∧-400≤d.exp∧d.exp≤400)
def DigR (s:ByteArray) (w:World) (e:Ending) (w':World):Prop:=∃ b,e=.returned (.bool b)∧(b=true→DigS s)∧w=w'
def ZerR (s:ByteArray) (w:World) (e:Ending) (w':World):Prop:=∃ k:Int,e=.returned (.int .i64 k)∧(k=0→s.size=0∨byteI s (s.size-1)≠48)∧w=w'
def Vld1R (s:ByteArray) (w:World) (e:Ending) (w':World):Prop:=∃ b,e=.returned (.bool b)∧(b=true→DigS s∧(s.size=0∨byteI s 0≠48))∧w=w'
theorem digits_ex (s:ByteArray) (w:World) (hs:s.size≤maxLen):Calls Tryz.prog 143 #[.string s] w (DigR s w):=by
 unfold maxLen at hs
 go_enter Tryz.func143,Tryz.ntmps143
 go_wp2_with fail
 go_loop [3] (fun i=>∃ k:Nat,k≤s.size∧i=.int .i64 k∧∀ j,j<k→48≤byteI s j∧byteI s j≤57) (fun i=>s.size-(intOf i).toNat)
 case atStart=>exact ⟨0,by omega,rfl,by omega⟩
 case round =>
  obtain ⟨k,hk,rfl,hall⟩:=hrel
  have HA:=Hd hall
  clear hall
  by_cases hlt:k<s.size
  ·have hb:=byteI_eq hlt
   by_cases h1:48≤byteI s k∧byteI s k≤57
   ·have H1:=Hd h1
    obtain ⟨h1,h2⟩:=h1
    have h3:¬ byteI s k<48:=by omega
    have h4:¬ 57<byteI s k:=by omega
    go_wp2_with fail
    go_round
    case rel=>exact ⟨k+1,by omega,by go_num,fun j hj=>by
     by_cases e:j=k
     ·subst e;exact H1.out
     ·exact HA.out j (by omega)⟩
    case measure=>simp [intOf];omega
   ·have h2:byteI s k<48∨57<byteI s k:=by omega
    clear h1
    rcases h2 with h2 | h2
    all_goals
     go_wp2_with fail
     all_goals
      go_ret
      exact ⟨_,rfl,fun h=>(by cases h),rfl⟩
  ·have HD:=Hd (show DigS s from fun i hi=>HA.out i (by omega))
   go_wp2_with fail
   go_ret
   exact ⟨_,rfl,fun _=>HD.out,rfl⟩
theorem zeros_ex (s:ByteArray) (w:World) (hs:s.size≤maxLen):Calls Tryz.prog 123 #[.string s] w (ZerR s w):=by
 unfold maxLen at hs
 go_enter Tryz.func123,Tryz.ntmps123
 go_wp2_with fail
 go_loop [3] (fun i=>∃ k:Nat,k≤s.size∧i=.int .i64 k) (fun i=>s.size-(intOf i).toNat)
 case atStart=>exact ⟨0,by omega,rfl⟩
 case round =>
  obtain ⟨k,hk,rfl⟩:=hrel
  by_cases hlt:k<s.size
  ·have hi0:(0:Int)≤(s.size:Int)-1-(k:Int):=by omega
   have hi1:(s.size:Int)-1-(k:Int)<(s.size:Int):=by omega
   have hlt2:s.size-1-k<s.size:=by omega
   have htn:((s.size:Int)-1-(k:Int)).toNat=s.size-1-k:=by omega
   have hb:=byteI_eq hlt2
   by_cases h48:byteI s (s.size-1-k)=48
   ·go_wp2_with fail
    all_goals first
     | (go_round
        case rel=>exact ⟨k+1,by omega,by go_num⟩
        case measure=>simp [intOf];omega)
     | (go_ret;exfalso;simp_all;done)
   ·have q1:(byteI s (s.size-1-k)==48)=false:=by simp [h48]
    have q2:(byteI s (s.size-1-k) != 48)=true:=by simp [h48]
    have H48:=Hd h48
    go_wp2_with fail
    all_goals
     go_ret
     refine ⟨_,rfl,fun h=>.inr ?_,rfl⟩
     have hk0:k=0:=by omega
     subst hk0
     exact H48.out
  ·have hke:k=s.size:=by omega
   go_wp2_with fail
   go_ret
   exact ⟨_,rfl,fun h=>.inl (by omega),rfl⟩
theorem valid01_ex (s:ByteArray) (w:World) (hs:s.size≤maxLen):Calls Tryz.prog 122 #[.string s] w (Vld1R s w):=by
 have HS:=Hd hs
 unfold maxLen at hs
 by_cases h0:s.size=0
 ·have H0:=Hd h0
  go_enter Tryz.func122,Tryz.ntmps122
  go_wp2_with (go_at_call 143;refine (digits_ex _ _ HS.out).mono ?_;rintro e w' ⟨b,rfl,_,rfl⟩)
  all_goals (go_ret;exact ⟨_,rfl,fun _=>⟨fun i hi=>by have:=H0.out;omega,.inl H0.out⟩,rfl⟩)
 ·have hp:0<s.size:=by omega
  have hb:=byteI_eq hp
  have hne:¬ s=ByteArray.empty:=by intro e;subst e;simp at hp
  clear h0
  by_cases h48:byteI s 0=48
  ·have q1:(byteI s 0 != 48)=false:=by simp [h48]
   go_enter Tryz.func122,Tryz.ntmps122
   go_wp2_with (go_at_call 143;refine (digits_ex _ _ HS.out).mono ?_;rintro e w' ⟨b,rfl,hbd,rfl⟩;have HBd:=Hd (show b=false∨DigS s by cases b;exact .inl rfl;exact .inr (hbd rfl));clear hbd)
   all_goals (go_ret;exact ⟨false,by first | rfl | (congr 2;simp [hne];done),fun h=>(by cases h),rfl⟩)
  ·have q1:(byteI s 0 != 48)=true:=by simp [h48]
   have H48:=Hd h48
   go_enter Tryz.func122,Tryz.ntmps122
   go_wp2_with (go_at_call 143;refine (digits_ex _ _ HS.out).mono ?_;rintro e w' ⟨b,rfl,hbd,rfl⟩;have HBd:=Hd (show b=false∨DigS s by cases b;exact .inl rfl;exact .inr (hbd rfl));clear hbd)
   all_goals first
    | (go_ret;exact ⟨false,rfl,fun h=>(by cases h),rfl⟩)
    | (go_ret
       refine ⟨_,rfl,fun h=>⟨?_,.inr H48.out⟩,rfl⟩
       rcases HBd.out with e | e
       ·subst e;first | (cases h;done) | (simp at h;done) | (exfalso;simp_all;done)
       ·exact e)
end Go.Proofs.YtniljgkkcnekgaaGreatDoor

/- Valid decimals of the reference (datakitref02.Valid), whole. -/
namespace Go.Proofs.YtniljgkkcnekgaaGreatDoor
open Go.RowKit
def Vld2R (d:DecD) (w:World) (e:Ending) (w':World):Prop:=∃ b,e=.returned (.bool b)∧(b=true→VDec d)∧Below w.heap.size w w'
theorem ne_toList {a:ByteArray} (h:0<a.size):¬ a.toList=[]:=by
 intro e
 have h3:a.toList.length=0:=by rw [e];rfl
 rw [ByteArray.toList_eq,Array.length_toList] at h3
 have h4:a.data.size=a.size:=rfl
 omega
theorem toList_nil {a:ByteArray} (h:a.size=0):a.toList=[]:=by
 have h4:a.data.size=a.size:=rfl
 rw [ByteArray.toList_eq]
 exact List.length_eq_zero_iff.1 (by rw [Array.length_toList];omega)
set_option maxRecDepth 100000 in
set_option maxHeartbeats 1600000 in
theorem valid02_ex (d:DecD) (w:World) (hs:d.digits.size≤maxLen):Calls Tryz.prog 100 #[.agg #[.bool d.neg,.string d.digits,.int .i64 d.exp]] w (Vld2R d w):=by
 have HS:=Hd hs
 by_cases h0:d.digits.size=0
 ·have hd:=toList_nil h0
  have H0:=Hd h0
  clear h0
  by_cases he:d.exp=0
  ·have HE:=Hd he
   cases hn:d.neg with
   | false =>
     have HV:=Hd (show VDec d from .inl ⟨H0.out,hn,he⟩)
     go_enter Tryz.func100,Tryz.ntmps100
     go_wp2_with fail
     all_goals (go_ret;exact ⟨_,rfl,fun _=>HV.out,Below.box _ _⟩)
   | true =>
     go_enter Tryz.func100,Tryz.ntmps100
     go_wp2_with fail
     all_goals (go_ret;exact ⟨false,rfl,fun h=>(by cases h),Below.box _ _⟩)
  ·have he1:(d.exp==0)=false:=by simp [he]
   cases hn:d.neg
   all_goals
    go_enter Tryz.func100,Tryz.ntmps100
    go_wp2_with fail
    all_goals (go_ret;exact ⟨false,rfl,fun h=>(by cases h),Below.box _ _⟩)
 ·have hp:0<d.digits.size:=by omega
  have hd:=ne_toList hp
  have hd1:(d.digits.toList==[])=false:=by simp [hd]
  have hd2:d.digits.toList.isEmpty=false:=by simp [hd]
  clear h0
  by_cases h120:d.digits.size≤120
  ·by_cases hx:-400≤d.exp∧d.exp≤400
   ·have HX:=Hd hx
    obtain ⟨hx1,hx2⟩:=hx
    go_enter Tryz.func100,Tryz.ntmps100
    go_wp2_with fail
    refine (valid01_ex _ _ HS.out).mono ?_
    rintro e w1 ⟨b,rfl,hv,rfl⟩
    cases b with
    | false =>
      clear hv
      go_wp2_with fail
      go_ret
      exact ⟨false,rfl,fun h=>(by cases h),Below.box _ _⟩
    | true =>
      have HV:=Hd (hv rfl)
      clear hv
      go_wp2_with fail
      refine (zeros_ex _ _ HS.out).mono ?_
      rintro e w2 ⟨k,rfl,hz,rfl⟩
      by_cases hk:k=0
      ·have HZ:=Hd (hz hk)
       clear hz
       subst hk
       go_wp2_with fail
       all_goals
        go_ret
        exact ⟨_,rfl,fun _=>.inr ⟨hp,h120,HV.out.1,HV.out.2.resolve_left (by omega),HZ.out.resolve_left (by omega),HX.out.1,HX.out.2⟩,Below.box _ _⟩
      ·have hk1:(k==0)=false:=by simp [hk]
       clear hz hk
       go_wp2_with fail
       all_goals (go_ret;exact ⟨false,rfl,fun h=>(by cases h),Below.box _ _⟩)
   ·have hx2:d.exp < -400∨400<d.exp:=by omega
    have HX:=Hd hx
    clear hx
    go_enter Tryz.func100,Tryz.ntmps100
    go_wp2_with fail
    refine (valid01_ex _ _ HS.out).mono ?_
    rintro e w1 ⟨b,rfl,_,rfl⟩
    cases b
    ·go_wp2_with fail
     go_ret
     exact ⟨false,rfl,fun h=>(by cases h),Below.box _ _⟩
    ·go_wp2_with fail
     refine (zeros_ex _ _ HS.out).mono ?_
     rintro e w2 ⟨k,rfl,_,rfl⟩
     rcases hx2 with hx2 | hx2
     all_goals
      go_wp2_with fail
      all_goals first
       | (go_ret;exact ⟨false,rfl,fun h=>(by cases h),Below.box _ _⟩)
       | (go_ret;exact ⟨false,by congr 2;simp;omega,fun h=>(by cases h),Below.box _ _⟩)
  ·have hgt:¬ (d.digits.size:Int)≤120:=by omega
   go_enter Tryz.func100,Tryz.ntmps100
   go_wp2_with fail
   all_goals (go_ret;exact ⟨false,rfl,fun h=>(by cases h),Below.box _ _⟩)
end Go.Proofs.YtniljgkkcnekgaaGreatDoor

/- The reference's validity of values, on: one value, the values in it, all of it. -/
namespace Go.Proofs.YtniljgkkcnekgaaGreatDoor
open Go.RowKit
end Go.Proofs.YtniljgkkcnekgaaGreatDoor

/- The reference's validity of values, to its end: Kids gives the values in a value; look and Check return, and write nothing that was there. -/
namespace Go.Proofs.YtniljgkkcnekgaaGreatDoor
open Go.RowKit
def kidsD (v:ValD):List ValD:=if v.kind=7 then v.fields.map (·.2) else v.list
def SomeVals (N:Nat) (l:List ValD) (w:World) (e:Ending) (w':World):Prop:=∃ (a:Option Addr) (c:Nat),e=.returned (.slice a l.length c)∧ValsAt w' w'.heap.size N l a∧Below w.heap.size w w'
theorem infoV:∃ z:Array Value,z.size=13∧(Tryz.prog.info? 39).map (fun i=>(i.zero,i.size,i.bytes))=some (some (.agg z),13,168) :=
 ⟨#[.int .i64 0,.bool false,.bool false,.string ⟨#[]⟩,.int .i64 0,.int .i64 0,.int .i64 0,.int .i64 0,.int .i64 0,.string ⟨#[]⟩,.slice none 0 0,.slice none 0 0,.slice none 0 0],rfl,by kernel_rfl⟩
theorem valsAt_own {w:World} {base N B:Nat} {v:Value} {t:TypeId} {n:Nat} {cs:List Value} {l:List ValD} (h:w.ownsRow base t 13 v n cs) (hn:l.length=n) (hB:w.heap.size≤B)
 (hl:∀ i (hi:i<l.length),ValD.At w B N l[i] ((cs.drop (i * 13)).take 13)):∃ a c,v=.slice a l.length c∧ValsAt w B N l a:=by
 obtain ⟨hlen,h2⟩:=h
 rcases h2 with ⟨rfl,rfl⟩ | ⟨g,cap,cur,rfl,hg,hh,hc,hm,hcs,htake⟩
 ·have:l=[]:=List.length_eq_zero_iff.1 hn
  subst this
  exact ⟨none,0,rfl,trivial⟩
 ·refine ⟨some ⟨g,0,none⟩,cap,by rw [hn],?_⟩
  have hgl:g<w.heap.size:=(Array.getElem?_eq_some_iff.1 hh).1
  refine ValsAt_of' (Nat.lt_of_lt_of_le hgl hB) l 0 fun i hi=>⟨_,?_,hl i hi⟩
  intro j hj
  have hj13:j<13:=by simp at hj;omega
  have hi':i * 13+j<n * 13:=by
   have:i+1≤n:=by omega
   have:=Nat.mul_le_mul_right 13 this
   omega
  have e:w.cell? ⟨g,0+i * 13+j,none⟩=cur[0+i * 13+j]?:=by simp [World.cell?,hh]
  rw [e,List.getElem?_take,if_pos hj13,List.getElem?_drop,← htake,List.getElem?_take,if_pos hi',Nat.zero_add]
  simp
theorem addr_add' (b o j:Nat):(⟨b,o,none⟩:Addr).add j=⟨b,o+j,none⟩:=by unfold Addr.add;split<;>simp_all
theorem ValD.At.oneCell {w:World} {B N:Nat} {v:ValD} {cs:List Value} (h:ValD.At w B N v cs):∀ u∈cs,u.oneCell'=true:=by
 obtain ⟨ya,la,va,yc,lc,vc,rfl,_⟩:=h.row
 intro u hu
 simp [ValD.row] at hu
 rcases hu with rfl | rfl | rfl | rfl | rfl | rfl | rfl | rfl | rfl | rfl | rfl | rfl | rfl<;>rfl
theorem drop_take_append {xs ys:List Value} {n i:Nat} (hx:xs.length=n * 13) (hy:ys.length=13) (hi:i<n+1) :
 ((xs++ys).drop (i * 13)).take 13=if i<n then (xs.drop (i * 13)).take 13 else ys:=by
 split
 ·rename_i h
  have h1:i * 13+13≤xs.length:=by
   have:=Nat.mul_le_mul_right 13 (show i+1≤n by omega)
   omega
  rw [List.drop_append_of_le_length (by omega),List.take_append_of_le_length (by simp;omega)]
 ·rename_i h
  obtain rfl:i=n:=by omega
  rw [← hx,List.drop_left,List.take_of_length_le (by omega)]
theorem fold_zip:∀ (cs:List Value) (n:Nat) (Z:Array Value),Z.size=n+cs.length→List.foldl (fun (a:Array Value) (x:Value×Nat)=>a.setIfInBounds x.2 x.1) Z (cs.zipIdx n)=(Z.toList.take n++cs).toArray
 | [],n,Z,h=>by
   have:Z.toList.take n=Z.toList:=List.take_of_length_le (by simpa using Nat.le_of_eq h)
   simp [this]
 | c::cs,n,Z,h=>by
   have hn:n<Z.size:=by simp at h;omega
   rw [List.zipIdx_cons,List.foldl_cons,fold_zip cs (n+1) _ (by simp at h ⊢;omega)]
   congr 1
   have:(Z.setIfInBounds n c).toList.take (n+1)=Z.toList.take n++[c]:=by
    have hl:n<(Z.setIfInBounds n c).toList.length:=by simpa using hn
    rw [List.take_succ_eq_append_getElem hl]
    congr 1
    ·rw [Array.toList_setIfInBounds,List.take_set_of_le (Nat.le_refl _)]
    ·simp
   rw [this,List.append_assoc]
   rfl
theorem fold_zip0 (cs:List Value) (Z:Array Value) (h:Z.size=cs.length):List.foldl (fun (a:Array Value) (x:Value×Nat)=>a.setIfInBounds x.2 x.1) Z cs.zipIdx=cs.toArray:=by
 have:=fold_zip cs 0 Z (by omega)
 simpa using this
theorem kids_list (v:ValD) (w:World) (B N:Nat) (cs:List Value) (hB:B≤w.heap.size) (hk:(v.kind==7)=false) (hv:ValD.At w B N v cs) :
 Calls Tryz.prog 69 #[.agg cs.toArray] w (SomeVals N (kidsD v) w):=by
 obtain ⟨ya,la,va,yc,lc,vc,hh⟩:=hv.has
 have c0:=hh.kind
 have c11:=hh.list
 have e:kidsD v=v.list:=by
  have:¬ v.kind=7:=by simpa using hk
  simp [kidsD,this]
 rw [e]
 have HF:=Hd (show ValsAt (w.alloc (.cells cs.toArray 39)) (w.alloc (.cells cs.toArray 39)).heap.size N v.list la from ((hh.atList.below ((belowBox w _).mono hB)).mono (by rw [World.size_alloc];omega)))
 clear hh hv e
 go_enter Tryz.func69,Tryz.ntmps69
 go_wp2_with fail
 go_ret
 exact ⟨la,lc,rfl,HF.out,belowBox w _⟩
set_option maxRecDepth 100000 in
set_option maxHeartbeats 1600000 in
theorem kids_map (v:ValD) (w:World) (B N:Nat) (cs:List Value) (hN:N≤4294967296) (hB:B≤w.heap.size) (hk:v.kind=7) (hv:ValD.At w B N v cs) :
 Calls Tryz.prog 69 #[.agg cs.toArray] w (SomeVals N (kidsD v) w):=by
 obtain ⟨z0,hz0s,hinfo⟩:=infoV
 obtain ⟨i0,hi,hz0,hz1,hz2⟩:=info_parts hinfo
 obtain ⟨ya,la,va,yc,lc,vc,hh⟩:=hv.has
 have c0:=hh.kind
 rw [hk] at c0
 have c12:=hh.fields
 have hfl:v.fields.length≤N:=hh.own.2.2.2.2.2.2.2.2.2.2
 have HH:=Hd hh
 have e:kidsD v=v.fields.map (·.2):=by simp [kidsD,hk]
 rw [e]
 have HI:=Hd hi
 have HZ0:=Hd hz0
 have HZ1:=Hd hz1
 have HZ2:=Hd hz2
 have HZS:=Hd hz0s
 clear hh hv e hk hi hz0 hz1 hz2 hz0s
 go_enter Tryz.func69,Tryz.ntmps69
 go_wp2_with fail
 go_simp
 go_loopw [3,4] (fun s i wr=>∃ (k:Nat) (xs:List Value),k≤v.fields.length∧i=.int .i64 k∧wr.ownsRow (w.heap.size+1) 39 13 s k xs∧(∀ j (hj:j<v.fields.length),j<k→ValD.At w B N v.fields[j].2 ((xs.drop (j * 13)).take 13)) ∧
  wr.cell? ⟨w.heap.size,12,none⟩=some (.slice va v.fields.length vc)∧w.heap.size<wr.heap.size∧Below w.heap.size w wr) (fun _ i _=>v.fields.length-(intOf i).toNat)
 case atStart=>exact ⟨0,[],by omega,rfl,World.ownsRow_nil _ _ _ _,fun j _ hj=>absurd hj (by omega),by go_simp,by simp,belowBox w _⟩
 case round =>
  obtain ⟨k,xs,hkl,rfl,hown,hat,hc12,hsz,hbel⟩:=hrel
  have HB:=Hd hbel
  have HA:=Hd hat
  have HO:=Hd hown
  clear hbel hat hown
  by_cases hlt:k<v.fields.length
  ·obtain ⟨b,o,rfl,hb,hget⟩:=HH.out.atFields.get (by intro h;simp [h] at hlt)
   obtain ⟨cs1,_,h1,h2⟩:=hget k hlt
   have HR:=Hd (h1.tail.below (HB.out.mono hB) hb).range
   have hl:=Hd (show (Tryz.prog.info? 39).map (·.size)=some cs1.length by rw [h2.len];exact sizeV)
   have HV1:=Hd h2
   have hlen1:=h2.len
   have hfz:=fold_zip0 cs1 #[.int .i64 0,.bool false,.bool false,.string ⟨#[]⟩,.int .i64 0,.int .i64 0,.int .i64 0,.int .i64 0,.int .i64 0,.string ⟨#[]⟩,.slice none 0 0,.slice none 0 0,.slice none 0 0] h2.len.symm
   clear h1 h2 hget
   go_wp2_with (first
    | (at_builtin;refine wpList_append_own _ rfl _ _ 36 rfl (w.heap.size+1) 39 i0 (.agg z0) 13 168 Tryz.underlying36 HI.out HZ0.out HZ1.out HZ2.out HZS.out (by decide) _ _ _ rfl (HO.out.alloc _) ⟨wr.heap.size,0,none⟩ 1 1 cs1 rfl HV1.out.len ?c1 ?c2 ?c3 ?c4 ?c5 ?_)
    | (refine wpList_load_mid rfl 39 _ rfl b (o+k * 14+1) rfl cs1 _ HR.out Tryz.underlying39 rfl hl.out ?_))
   case c1 =>
    intro j u hj
    rw [addr_add',World.cell?_alloc_new]
    simpa using hj
   case c2=>exact HV1.out.oneCell
   case c3=>unfold maxLen;omega
   case c4=>omega
   case c5=>rw [World.size_alloc];omega
   intro v' w1 hown1 hgrow _
   have hgrow':=hgrow
   have HB1:Hid (Below w.heap.size w w1):=(HB.out.alloc HB.out.size _).grown hgrow (by rw [World.size_alloc];omega) (fun q hq=>by have:=(HO.out.lt q hq).1;omega)
   have d12:w1.cell? ⟨w.heap.size,12,none⟩=some (.slice (some ⟨b,o,none⟩) v.fields.length vc):=by
    refine hgrow.cell ?_ ?_
    ·rw [World.cell?_alloc_lt _ _ _ hsz];exact hc12
    ·intro hq
     have:=(HO.out.lt w.heap.size hq.symm).1
     omega
   have hsz1:w.heap.size<w1.heap.size:=by
    have:=hgrow.size
    rw [World.size_alloc] at this
    omega
   have HO1:=Hd hown1
   clear hgrow hgrow' hown1 hc12 hsz
   go_wp2
   go_roundw
   case rel =>
    refine ⟨k+1,xs++cs1,by omega,by go_num,HO1.out,fun j hj hjk=>?_,d12,hsz1,HB1.out⟩
    rw [drop_take_append HO.out.1 HV1.out.len hjk]
    split
    ·exact HA.out j hj ‹_›
    ·obtain rfl:j=k:=by omega
     exact HV1.out
   case measure=>simp [intOf];omega
  ·obtain rfl:k=v.fields.length:=by omega
   have HE:=Hd (valsAt_own (N:=N) (B:=wr.heap.size) (l:=v.fields.map (·.2)) HO.out (by simp) (Nat.le_refl _) (fun i hi=>by
    have hi':i<v.fields.length:=by simpa using hi
    have:=HA.out i hi' hi'
    simp only [List.getElem_map]
    exact ((this.below (HB.out.mono hB)).mono (Nat.le_trans hB HB.out.size))))
   go_wp2_with fail
   go_ret
   obtain ⟨a,c,e1,e2⟩:=HE.out
   exact ⟨a,c,by rw [← e1];rfl,e2,HB.out⟩
end Go.Proofs.YtniljgkkcnekgaaGreatDoor

/- The reference's validity of values, to its end: look and Check return, and write nothing that was there. -/
namespace Go.Proofs.YtniljgkkcnekgaaGreatDoor
open Go.RowKit
theorem kids_any (v:ValD) (w:World) (B N:Nat) (cs:List Value) (hN:N≤4294967296) (hB:B≤w.heap.size) (hv:ValD.At w B N v cs) :
 Calls Tryz.prog 69 #[.agg cs.toArray] w (SomeVals N (kidsD v) w):=by
 by_cases hk:v.kind=7
 ·exact kids_map v w B N cs hN hB hk hv
 ·exact kids_list v w B N cs hB (by simpa using hk) hv
theorem kids_len {w:World} {B N:Nat} {v:ValD} {cs:List Value} (hv:ValD.At w B N v cs):(kidsD v).length≤N:=by
 obtain ⟨ya,la,va,yc,lc,vc,hh⟩:=hv.has
 unfold kidsD
 split
 ·simpa using hh.own.2.2.2.2.2.2.2.2.2.2
 ·exact hh.own.2.2.2.2.2.2.2.2.2.1
end Go.Proofs.YtniljgkkcnekgaaGreatDoor

/- Letters, digits, names, keywords and identifiers of the reference (datakitref35): what they compute. -/
namespace Go.Proofs.YtniljgkkcnekgaaGreatDoor
open Go.RowKit
def letterB (c:Int):Bool:=decide (65≤c∧c≤90) || decide (97≤c∧c≤122) || decide (c=95)
def digitB (c:Int):Bool:=decide (48≤c∧c≤57)
def ld (c:UInt8):Bool:=letterB c.toNat || digitB c.toNat
def bs (l:List UInt8):ByteArray:=⟨l.toArray⟩
end Go.Proofs.YtniljgkkcnekgaaGreatDoor
