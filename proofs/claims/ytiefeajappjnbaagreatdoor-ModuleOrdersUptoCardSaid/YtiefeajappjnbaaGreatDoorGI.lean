/- The form of a node by classes of operators: plain laws. No program here. -/
import Derived.Test.YtiefeajappjnbaaGreatDoorGG
import Derived.Test.YtiefeajappjnbaaGreatDoorGD
import Derived.Test.YtiefeajappjnbaaGreatDoorGA
namespace Go.Proofs.YtiefeajappjnbaaGreatDoor
open Go.RowKit
theorem sizeE:(Tryz.prog.info? 34).map (·.size)=some 17:=by kernel_rfl
def ElseO (o:Int):Prop:=(o==3)=false∧(o==7)=false∧(o==12)=false∧(o==13)=false∧(o==21)=false∧(o==23)=false∧(o==25)=false∧(o != 3)=true∧(o != 23)=true∧(o != 7)=true
theorem ElseO.ne {o:Int} (h:ElseO o):o≠3∧o≠7∧o≠12∧o≠13∧o≠21∧o≠23∧o≠25:=by
 obtain ⟨h1,h2,h3,h4,h5,h6,h7,_⟩:=h
 simp at h1 h2 h3 h4 h5 h6 h7
 exact ⟨h1,h2,h3,h4,h5,h6,h7⟩
theorem ElseO.mk' {o:Int} (h3:o≠3) (h7:o≠7) (h12:o≠12) (h13:o≠13) (h21:o≠21) (h23:o≠23) (h25:o≠25):ElseO o:=by
 refine ⟨?_,?_,?_,?_,?_,?_,?_,?_,?_,?_⟩
 all_goals simpa using ‹_›
theorem numE_else {o:Int} (h:1≤o∧o≤29) (he:ElseO o):0≤numE o∧numE o≤4:=by
 obtain ⟨_,_,_,_,_,_,_⟩:=he.ne
 unfold numE
 repeat' split
 all_goals omega
theorem frm_opt {o:Int} (h:1≤o∧o≤29):frmE o=(optE o:Int):=by
 rcases ops31 (show 1≤o∧o≤30 by omega) with rfl | rfl | rfl | rfl | rfl | rfl | rfl | rfl | rfl | rfl | rfl | rfl | rfl | rfl | rfl | rfl | rfl | rfl | rfl | rfl | rfl | rfl | rfl | rfl | rfl | rfl | rfl | rfl | rfl | rfl
 all_goals first | rfl | omega
theorem opt_opt {o:Int} (h:1≤o∧o≤29) {n k:Nat} (hk:k<n) (hn:(0≤numE o→(n:Int)=numE o)∧(o=21→n≤8)∧(o=25→n≤65536)):optP o k=decide (optE o≤k):=by
 obtain ⟨h1,h2,h3⟩:=hn
 rw [Bool.eq_iff_iff]
 unfold optP
 rw [decide_eq_true_eq,decide_eq_true_eq]
 rcases ops31 (show 1≤o∧o≤30 by omega) with rfl | rfl | rfl | rfl | rfl | rfl | rfl | rfl | rfl | rfl | rfl | rfl | rfl | rfl | rfl | rfl | rfl | rfl | rfl | rfl | rfl | rfl | rfl | rfl | rfl | rfl | rfl | rfl | rfl | rfl
 all_goals
  simp [numE] at h1 h2 h3
  simp [optE]
  try omega
theorem argB_get (o:Int) {l:List ExprD} {k:Nat} (h:k<l.length):argB o l k=if l[k].op=30 then (decide (optE o≤k)&&absB l[k]) else true:=by
 unfold argB
 have e:l.getD k default=l[k]:=by simp [List.getD,List.getElem?_eq_getElem h]
 rw [e]
 split
 next hz=>rw [Bool.eq_iff_iff,decide_eq_true_eq];simp [hz]
 next hz=>rw [decide_eq_true_eq];intro h;exact absurd h hz
theorem args_all {o:Int} {l:List ExprD} (h:∀ j,j<l.length→argB o l j=true):argsB o l=true:=by
 unfold argsB
 rw [List.all_eq_true]
 intro j hj
 exact h j (List.mem_range.1 hj)
theorem form_bad_arg {x:ExprD} {k:Nat} (hk:k<x.args.length) (h:argB x.op x.args k=false):formB x=false:=by
 rw [Bool.eq_false_iff]
 intro hf
 obtain ⟨_,_,_,_,_,ha,_⟩:=of_decide_eq_true hf
 unfold argsB at ha
 rw [List.all_eq_true] at ha
 have:=ha k (List.mem_range.2 hk)
 rw [h] at this
 cases this
theorem form_bad_cnt {x:ExprD} (h:cntP x.op x.args.length=false):formB x=false:=by
 rw [Bool.eq_false_iff]
 intro hf
 obtain ⟨h1,h2,h3,h4,h5,_⟩:=of_decide_eq_true hf
 have:=of_decide_eq_false h
 exact this ⟨h1,h2,h3,h4,h5⟩
theorem cnt_parts {o:Int} {n:Nat} (h:cntP o n=true):(1≤o∧o≤29)∧(0≤numE o→(n:Int)=numE o)∧(o=21→n≤8)∧(o=25→n % 2=0):=by
 obtain ⟨h1,h2,h3,h4,h5⟩:=of_decide_eq_true h
 exact ⟨⟨h1,h2⟩,h3,h4,h5⟩
theorem cnt_num {o:Int} {n:Nat} (h:1≤o∧o≤29) (h0:0≤numE o):cntP o n=true↔(n:Int)=numE o:=by
 unfold cntP
 rw [decide_eq_true_eq]
 constructor
 ·rintro ⟨_,_,h3,_⟩
  exact h3 h0
 ·intro hn
  exact ⟨h.1,h.2,fun _=>hn,fun h=>(by subst h;exact absurd h0 (by decide)),fun h=>(by subst h;exact absurd h0 (by decide))⟩
theorem form_rest {x:ExprD} (hc:cntP x.op x.args.length=true) (ha:argsB x.op x.args=true):formB x=true ↔
 (¬ (x.op=7∧(x.args.getD 1 default).op=30∧(x.args.getD 2 default).op=30)∧(hasB x.op=true∨x.name.toList=[])∧(x.op=3∨zeroB x.val=true)∧(x.op=23∨(x.funcs.length:Int)=0) ∧
 ((x.op=12∨x.op=13)→operB x.op x.name.toList=true)∧(x.op=3→litB x.val=true)∧(x.op=23→(0:Int)<x.funcs.length)):=by
 obtain ⟨⟨h1,h2⟩,h3,h4,h5⟩:=cnt_parts hc
 unfold formB
 rw [decide_eq_true_eq,toList_nil_iff]
 simp only [Int.natCast_eq_zero,Int.natCast_pos]
 constructor
 ·rintro ⟨_,_,_,_,_,_,g1,g2,g3,g4,g5,g6,g7⟩
  exact ⟨g1,g2,g3,g4,g5,g6,g7⟩
 ·rintro ⟨g1,g2,g3,g4,g5,g6,g7⟩
  exact ⟨h1,h2,h3,h4,h5,ha,g1,g2,g3,g4,g5,g6,g7⟩
theorem form_E {x:ExprD} (he:ElseO x.op) (hc:cntP x.op x.args.length=true) (ha:argsB x.op x.args=true):formB x=true↔((hasB x.op=true∨x.name.toList=[])∧zeroB x.val=true∧(x.funcs.length:Int)=0):=by
 obtain ⟨n3,n7,n12,n13,_,n23,_⟩:=he.ne
 rw [form_rest hc ha]
 constructor
 ·rintro ⟨_,g2,g3,g4,_⟩
  exact ⟨g2,g3.resolve_left n3,g4.resolve_left n23⟩
 ·rintro ⟨g2,g3,g4⟩
  exact ⟨fun h=>n7 h.1,g2,.inr g3,.inr g4,fun h=>(by rcases h with h | h;exact absurd h n12;exact absurd h n13),fun h=>absurd h n3,fun h=>absurd h n23⟩
theorem form_3 {x:ExprD} (ho:x.op=3) (hc:cntP x.op x.args.length=true) (ha:argsB x.op x.args=true):formB x=true↔(x.name.toList=[]∧litB x.val=true∧(x.funcs.length:Int)=0):=by
 rw [form_rest hc ha,ho]
 simp [hasB,idnB]
 grind
theorem form_7 {x:ExprD} (ho:x.op=7) (hc:cntP x.op x.args.length=true) (ha:argsB x.op x.args=true):formB x=true↔(¬ ((x.args.getD 1 default).op=30∧(x.args.getD 2 default).op=30)∧x.name.toList=[]∧zeroB x.val=true∧(x.funcs.length:Int)=0):=by
 rw [form_rest hc ha,ho]
 simp [hasB,idnB]
theorem form_12 {x:ExprD} (ho:x.op=12) (hc:cntP x.op x.args.length=true) (ha:argsB x.op x.args=true):formB x=true↔(zeroB x.val=true∧operB 12 x.name.toList=true∧(x.funcs.length:Int)=0):=by
 rw [form_rest hc ha,ho]
 simp [hasB,idnB]
 grind
theorem form_13 {x:ExprD} (ho:x.op=13) (hc:cntP x.op x.args.length=true) (ha:argsB x.op x.args=true):formB x=true↔(zeroB x.val=true∧operB 13 x.name.toList=true∧(x.funcs.length:Int)=0):=by
 rw [form_rest hc ha,ho]
 simp [hasB,idnB]
 grind
theorem form_21 {x:ExprD} (ho:x.op=21) (hc:cntP x.op x.args.length=true) (ha:argsB x.op x.args=true):formB x=true↔(zeroB x.val=true∧(x.funcs.length:Int)=0):=by
 rw [form_rest hc ha,ho]
 simp [hasB,idnB]
theorem form_23 {x:ExprD} (ho:x.op=23) (hc:cntP x.op x.args.length=true) (ha:argsB x.op x.args=true):formB x=true↔(x.name.toList=[]∧zeroB x.val=true∧(0:Int)<x.funcs.length):=by
 rw [form_rest hc ha,ho]
 simp [hasB,idnB]
theorem form_25 {x:ExprD} (ho:x.op=25) (hc:cntP x.op x.args.length=true) (ha:argsB x.op x.args=true):formB x=true↔(x.name.toList=[]∧zeroB x.val=true∧(x.funcs.length:Int)=0):=by
 rw [form_rest hc ha,ho]
 simp [hasB,idnB]
end Go.Proofs.YtiefeajappjnbaaGreatDoor

/- Cells of functions and expressions in boxes; what a false part of a form says. No program here but for sizes. -/
namespace Go.Proofs.YtiefeajappjnbaaGreatDoor
open Go.RowKit
structure FuncD.Has (w:World) (B N:Nat) (f:FuncD) (cs:List Value) (pa:Option Addr) (pc:Nat) (es:List Value):Prop where
 len:cs.length=19
 name:cs[0]?=some (.string f.name)
 params:cs[1]?=some (.slice pa f.params.length pc)
 body:cs.drop 2=es
 one:∀ v∈cs,v.oneCell'=true
 hn:f.name.size≤N
 hp:f.params.length≤N
 atPar:ParamsAt w B N f.params pa
 atBody:ExprD.At w B N f.body es
theorem ExprD.At.one {w:World} {B N:Nat} {e:ExprD} {cs:List Value} (h:ExprD.At w B N e cs):∀ v∈cs,v.oneCell'=true:=by
 obtain ⟨ya,la,va,aa,fa,yc,lc,vc,ac,fc,rfl,_⟩:=h.row
 intro v hv
 simp only [ExprD.row,List.mem_cons,List.mem_nil_iff,or_false] at hv
 rcases hv with rfl | rfl | rfl | rfl | rfl | rfl | rfl | rfl | rfl | rfl | rfl | rfl | rfl | rfl | rfl | rfl | rfl<;>rfl
theorem FuncD.At.has {w:World} {B N:Nat} {f:FuncD} {cs:List Value} (h:FuncD.At w B N f cs):∃ pa pc es,FuncD.Has w B N f cs pa pc es:=by
 have hl:=h.len
 obtain ⟨nm,ps,e⟩:=f
 obtain ⟨pa,pc,es,rfl,h1,h2,h3,h4⟩:=h
 refine ⟨pa,pc,es,⟨hl,rfl,rfl,rfl,fun v hv=>?_,h1,h2,h3,h4⟩⟩
 simp only [List.mem_cons] at hv
 rcases hv with rfl | rfl | hv
 ·rfl
 ·rfl
 ·exact h4.one v hv
theorem CellsAt.drop2 {w:World} {b:Nat} {cs es:List Value} (h:CellsAt w b 0 cs) (hd:cs.drop 2=es):CellsAt w b 2 es:=fun j hj=>by
 subst hd
 have hj':j+2<cs.length:=by simp at hj;omega
 have:=h (j+2) hj'
 rw [List.getElem?_drop,show 2+j=j+2 by omega,← this,show 0+(j+2)=j+2 by omega]
theorem sizeFN:(Tryz.prog.info? 72).map (·.size)=some 19:=by kernel_rfl
theorem ParamsAt.mono' {w:World} {B B' N:Nat} (h:B≤B') {l:List ParD} {a:Option Addr} (hp:ParamsAt w B N l a):ParamsAt w B' N l a:=ParamsAt.mono h l hp
theorem form_bad_zero {x:ExprD} (h3:x.op≠3) (h:zeroB x.val=false):formB x=false:=by
 rw [Bool.eq_false_iff]
 intro hf
 obtain ⟨_,_,_,_,_,_,_,_,hz,_⟩:=of_decide_eq_true hf
 rcases hz with hz | hz
 ·exact h3 hz
 ·rw [h] at hz;cases hz
theorem form_bad_lit {x:ExprD} (h3:x.op=3) (h:litB x.val=false):formB x=false:=by
 rw [Bool.eq_false_iff]
 intro hf
 obtain ⟨_,_,_,_,_,_,_,_,_,_,_,hz,_⟩:=of_decide_eq_true hf
 rw [h] at hz
 cases hz h3
theorem form_bad_fun {x:ExprD} (h3:x.op≠23) (h:0<x.funcs.length):formB x=false:=by
 rw [Bool.eq_false_iff]
 intro hf
 obtain ⟨_,_,_,_,_,_,_,_,_,hz,_⟩:=of_decide_eq_true hf
 rcases hz with hz | hz
 ·exact h3 hz
 ·omega
theorem form_bad_def {x:ExprD} (h3:x.op=23) (h:¬ 0<x.funcs.length):formB x=false:=by
 rw [Bool.eq_false_iff]
 intro hf
 obtain ⟨_,_,_,_,_,_,_,_,_,_,_,_,hz⟩:=of_decide_eq_true hf
 exact h (hz h3)
theorem has_else {o:Int} (he:ElseO o):hasB o=(idnB o || (o==5)):=by
 obtain ⟨_,_,n12,n13,n21,_,_⟩:=he.ne
 unfold hasB
 congr 1
 rw [Bool.eq_iff_iff,decide_eq_true_eq]
 simp [n12,n13,n21]
end Go.Proofs.YtiefeajappjnbaaGreatDoor
