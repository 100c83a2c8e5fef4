/- How tightly an expression binds: the program's level and the reference's. -/
import Derived.Test.YtniljgkkcnekgaaGreatDoorProg
import Derived.Test.YtniljgkkcnekgaaGreatDoorGA
import Derived.Test.YtniljgkkcnekgaaGreatDoorGD
import Derived.Deep.WholeRow
import Derived.Lib.Join
import Derived.Lib.AppendStr
import Derived.Deep.AppendLies
import Derived.Lib.SliceRun
import Derived.OrdersHeld
import Derived.Laws.CopyOwn
import Derived.Laws.CopyRow
namespace Go.Proofs.YtniljgkkcnekgaaGreatDoor
open Go.RowKit
theorem szl (a:Array UInt8):(⟨a⟩:ByteArray).size=a.size:=rfl
end Go.Proofs.YtniljgkkcnekgaaGreatDoor

/- qparse.arg: the source of an argument, in parentheses if it binds too loosely. -/
namespace Go.Proofs.YtniljgkkcnekgaaGreatDoor
open Go.RowKit
def StrB (s:ByteArray) (w:World) (e:Ending) (w':World):Prop:=e=.returned (.string s)∧Below w.heap.size w w'
end Go.Proofs.YtniljgkkcnekgaaGreatDoor

/- qparse.quote: a valid string in quotation marks. -/
namespace Go.Proofs.YtniljgkkcnekgaaGreatDoor
open Go.RowKit
end Go.Proofs.YtniljgkkcnekgaaGreatDoor

/- qparse.present, qparse.guarded. -/
namespace Go.Proofs.YtniljgkkcnekgaaGreatDoor
open Go.RowKit
end Go.Proofs.YtniljgkkcnekgaaGreatDoor

/- The form of a node by classes of operators: plain laws. No program here. -/
namespace Go.Proofs.YtniljgkkcnekgaaGreatDoor
open Go.RowKit
def ElseO (o:Int):Prop:=(o==3)=false∧(o==7)=false∧(o==12)=false∧(o==13)=false∧(o==21)=false∧(o==23)=false∧(o==25)=false∧(o != 3)=true∧(o != 23)=true∧(o != 7)=true
theorem ElseO.ne {o:Int} (h:ElseO o):o≠3∧o≠7∧o≠12∧o≠13∧o≠21∧o≠23∧o≠25:=by
 obtain ⟨h1,h2,h3,h4,h5,h6,h7,_⟩:=h
 simp at h1 h2 h3 h4 h5 h6 h7
 exact ⟨h1,h2,h3,h4,h5,h6,h7⟩
end Go.Proofs.YtniljgkkcnekgaaGreatDoor

/- datakitref36.form: what it asks of a node, by class of operator (printed by gen36.py). -/
namespace Go.Proofs.YtniljgkkcnekgaaGreatDoor
open Go.RowKit
end Go.Proofs.YtniljgkkcnekgaaGreatDoor

/- Cells of functions and expressions in boxes; what a false part of a form says. No program here but for sizes. -/
namespace Go.Proofs.YtniljgkkcnekgaaGreatDoor
open Go.RowKit
structure FuncD.Has (w:World) (B N:Nat) (f:FuncD) (cs:List Value) (pa:Option Addr) (pc:Nat) (es:List Value):Prop where
 len:cs.length=19
 name:cs[0]?=some (.string f.name)
 params:cs[1]?=some (.slice pa f.params.length pc)
 body:cs.drop 2=es
 one:∀ v∈cs,v.oneCell'=true
 hn:f.name.size≤N
 hp:f.params.length≤N
 atPar:ParamsAt w B N f.params pa
 atBody:ExprD.At w B N f.body es
theorem ExprD.At.one {w:World} {B N:Nat} {e:ExprD} {cs:List Value} (h:ExprD.At w B N e cs):∀ v∈cs,v.oneCell'=true:=by
 obtain ⟨ya,la,va,aa,fa,yc,lc,vc,ac,fc,rfl,_⟩:=h.row
 intro v hv
 simp only [ExprD.row,List.mem_cons,List.mem_nil_iff,or_false] at hv
 rcases hv with rfl | rfl | rfl | rfl | rfl | rfl | rfl | rfl | rfl | rfl | rfl | rfl | rfl | rfl | rfl | rfl | rfl<;>rfl
theorem FuncD.At.has {w:World} {B N:Nat} {f:FuncD} {cs:List Value} (h:FuncD.At w B N f cs):∃ pa pc es,FuncD.Has w B N f cs pa pc es:=by
 have hl:=h.len
 obtain ⟨nm,ps,e⟩:=f
 obtain ⟨pa,pc,es,rfl,h1,h2,h3,h4⟩:=h
 refine ⟨pa,pc,es,⟨hl,rfl,rfl,rfl,fun v hv=>?_,h1,h2,h3,h4⟩⟩
 simp only [List.mem_cons] at hv
 rcases hv with rfl | rfl | hv
 ·rfl
 ·rfl
 ·exact h4.one v hv
end Go.Proofs.YtniljgkkcnekgaaGreatDoor

/- qparse.shape: what it asks of a node, by class of operator (printed by gen36.py). -/
namespace Go.Proofs.YtniljgkkcnekgaaGreatDoor
open Go.RowKit
end Go.Proofs.YtniljgkkcnekgaaGreatDoor

/- What a node is asked for: datakitref36.form and qparse.shape say formB. -/
namespace Go.Proofs.YtniljgkkcnekgaaGreatDoor
open Go.RowKit
end Go.Proofs.YtniljgkkcnekgaaGreatDoor

/- The zero value is valid; so is the value of a node that is as its operator asks, but for a literal's. No program here. -/
namespace Go.Proofs.YtniljgkkcnekgaaGreatDoor
open Go.RowKit
end Go.Proofs.YtniljgkkcnekgaaGreatDoor

/- The reference's check of expressions (datakitref36.look, kid): it returns what lookE says. -/
namespace Go.Proofs.YtniljgkkcnekgaaGreatDoor
open Go.RowKit
end Go.Proofs.YtniljgkkcnekgaaGreatDoor

/- Names that were seen: plain laws of funsE and parsE. No program here. -/
namespace Go.Proofs.YtniljgkkcnekgaaGreatDoor
open Go.RowKit
end Go.Proofs.YtniljgkkcnekgaaGreatDoor

/- The reference's check of functions (datakitref36.funcs), given 'look' at the same depth: what fnE says; the reference's Check is chkE. -/
namespace Go.Proofs.YtniljgkkcnekgaaGreatDoor
open Go.RowKit
end Go.Proofs.YtniljgkkcnekgaaGreatDoor

/- The number of nodes of an expression that the check accepts: a plain function and its laws. No program here. -/
namespace Go.Proofs.YtniljgkkcnekgaaGreatDoor
open Go.RowKit
end Go.Proofs.YtniljgkkcnekgaaGreatDoor

/- What an accepted expression is, node by node: its form, its literal, its absent arguments. No program here. (Wfe43 without programs.) -/
namespace Go.Proofs.YtniljgkkcnekgaaGreatDoor
open Go.RowKit
end Go.Proofs.YtniljgkkcnekgaaGreatDoor

/- How long the source of an accepted expression can be: plain laws. No program here. -/
namespace Go.Proofs.YtniljgkkcnekgaaGreatDoor
open Go.RowKit
theorem sz_lit (a:Array UInt8):(⟨a⟩:ByteArray).size=a.size:=rfl
theorem wholeS_size (n:Nat) (h:n<10 ^ 20):(wholeS n).size≤20:=by
 unfold wholeS fromI
 split
 ·rw [sz_lit];simp
 ·rw [strOfNums_size];exact digL_len 20 n h
theorem zeros_size (n:Nat):(zerosS n).size=n:=by unfold zerosS;rw [strOfNums_size,List.length_replicate]
theorem ext_size (s:ByteArray) (a b:Nat):(s.extract a b).size≤s.size:=by rw [ByteArray.size_extract];omega
theorem numT_size (d:DecD) (N:Nat) (hd:d.digits.size≤N) (he:-1000000000≤d.exp∧d.exp≤1000000000) (hN:N≤1048576):(numT d).size≤2 * N+64:=by
 have h0:(signS d.neg).size≤1:=by unfold signS;split<;>simp [sz_lit]
 have x1:=ext_size d.digits 0 1
 have x2:=ext_size d.digits 1 d.digits.size
 have x3:=ext_size d.digits 0 (d.digits.size+d.exp).toNat
 have x4:=ext_size d.digits (d.digits.size+d.exp).toNat d.digits.size
 have w1:=wholeS_size (1-(d.digits.size+d.exp)).toNat (by omega)
 have w2:=wholeS_size (d.digits.size+d.exp-1).toNat (by omega)
 unfold numT
 repeat' split
 all_goals
  simp only [ByteArray.size_append,sz_lit,zeros_size,List.size_toArray,List.length_cons,List.length_nil]
  omega
end Go.Proofs.YtniljgkkcnekgaaGreatDoor

/- qparse.joined: the sources of arguments that are not absent, with "; " between. -/
namespace Go.Proofs.YtniljgkkcnekgaaGreatDoor
open Go.RowKit
theorem ba_ext {a b:ByteArray} (h:a.data.toList=b.data.toList):a=b:=by
 have:a.data=b.data:=Array.toList_inj.1 h
 cases a;cases b
 simp_all
theorem own_then' {w w':World} {lo sz n:Nat} {t:TypeId} {v:Value} {xs:List Value} (h:w.ownsRow lo t sz v n xs) (hb:Below w.heap.size w w'):w'.ownsRow lo t sz v n xs:=by
 refine ⟨h.1,?_⟩
 rcases h.2 with hv | ⟨g,cap,cur,hv,hl,hg,hr⟩
 ·exact .inl hv
 ·exact .inr ⟨g,cap,cur,hv,hl,(hb.block g (Array.getElem?_eq_some_iff.1 hg).1).trans hg,hr⟩
end Go.Proofs.YtniljgkkcnekgaaGreatDoor

/- The reference's quotation: sign, Quote, quote. -/
namespace Go.Proofs.YtniljgkkcnekgaaGreatDoor
open Go.RowKit
theorem strCells_nums:∀ (l:List Int),(∀ x∈l,0≤x∧x≤255)→Lib.strCells (strOfNums l)=l.map (Value.int .u8)
 | [],_=>rfl
 | x::r,h=>by
   have ih:=strCells_nums r (fun y hy=>h y (List.mem_cons_of_mem _ hy))
   obtain ⟨h0,h1⟩:=h x (List.mem_cons_self)
   unfold Lib.strCells at ih ⊢
   rw [strOfNums_data] at ih ⊢
   rw [List.map_cons,List.map_cons,ih,List.map_cons]
   congr 2
   rw [UInt8.toNat_ofNat_of_lt' (by show x.toNat<256;omega)]
   omega
theorem hexC_range {d:Int} (h0:0≤d) (h1:d<16):0≤hexC d∧hexC d≤255:=by unfold hexC;split<;>omega
theorem escB_range {c:Int} (h0:0≤c) (h1:c≤255):∀ x∈escB c,0≤x∧x≤255:=by
 have a:=hexC_range (d:=c / 16) (by omega) (by omega)
 have b:=hexC_range (d:=c % 16) (by omega) (by omega)
 intro x hx
 unfold escB at hx
 split at hx
 ·simp at hx;omega
 split at hx
 ·simp at hx;omega
 split at hx
 ·simp at hx;omega
 split at hx
 ·simp at hx;omega
 split at hx
 ·simp at hx;omega
 split at hx
 ·simp at hx;omega
 split at hx
 ·simp at hx;omega
 split at hx
 ·simp at hx;rcases hx with rfl | rfl | rfl | rfl | rfl<;>omega
 ·simp at hx;omega
theorem belowDrewN {B:Nat} {w0 w:World} (h:Below B w0 w) (n:Nat):Below B w0 (w.drewN n):=h.trans ⟨rfl,rfl,rfl,Nat.le_refl _,fun _ _=>rfl⟩
theorem conv_one {w:World} {c:Int}:(convert 35 9 (.slice (some ⟨w.heap.size,0,none⟩) 1 1)).run Tryz.prog (w.alloc (.cells #[.int .u8 c] 5))=.ok (.string (strOfNums [c])) (w.alloc (.cells #[.int .u8 c] 5)) :=
 conv_owned (B:=w.heap.size) (n:=1) (out:=[c]) ⟨rfl,.inr ⟨w.heap.size,1,#[.int .u8 c],rfl,Nat.le_refl _,heap_alloc_new w _,by omega,by unfold maxLen;omega,rfl,rfl⟩⟩ rfl
end Go.Proofs.YtniljgkkcnekgaaGreatDoor
