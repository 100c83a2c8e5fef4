/- The form of a node by classes of operators: plain laws. No program here. -/
import Derived.Test.YtiefeajappjnbaaGreatDoorGG
import Derived.Test.YtiefeajappjnbaaGreatDoorGD
import Derived.Test.YtiefeajappjnbaaGreatDoorGA
namespace Go.Proofs.YtiefeajappjnbaaGreatDoor
open Go.RowKit
theorem ay:(Tryz.prog.info? 34).map (·.size)=some 17:=by kernel_rfl
def gk (o:Int):Prop:=(o==3)=false∧(o==7)=false∧(o==12)=false∧(o==13)=false∧(o==21)=false∧(o==23)=false∧(o==25)=false∧(o != 3)=true∧(o != 23)=true∧(o != 7)=true
theorem gk.ne {o:Int} (h:gk o):o≠3∧o≠7∧o≠12∧o≠13∧o≠21∧o≠23∧o≠25:=by
 obtain ⟨h1,h2,h3,h4,h5,h6,h7,_⟩:=h
 simp at h1 h2 h3 h4 h5 h6 h7
 exact ⟨h1,h2,h3,h4,h5,h6,h7⟩
theorem gk.mk' {o:Int} (h3:o≠3) (h7:o≠7) (h12:o≠12) (h13:o≠13) (h21:o≠21) (h23:o≠23) (h25:o≠25):gk o:=by
 refine ⟨?_,?_,?_,?_,?_,?_,?_,?_,?_,?_⟩
 all_goals simpa using ‹_›
theorem uw {o:Int} (h:1≤o∧o≤29) (he:gk o):0≤bT o∧bT o≤4:=by
 obtain ⟨_,_,_,_,_,_,_⟩:=he.ne
 unfold bT
 repeat' split
 all_goals omega
theorem Ad {o:Int} (h:1≤o∧o≤29):Ce o=(lS o:Int):=by
 rcases nt (show 1≤o∧o≤30 by omega) with rfl | rfl | rfl | rfl | rfl | rfl | rfl | rfl | rfl | rfl | rfl | rfl | rfl | rfl | rfl | rfl | rfl | rfl | rfl | rfl | rfl | rfl | rfl | rfl | rfl | rfl | rfl | rfl | rfl | rfl
 all_goals first | rfl | omega
theorem zz {o:Int} (h:1≤o∧o≤29) {n k:Nat} (hk:k<n) (hn:(0≤bT o→(n:Int)=bT o)∧(o=21→n≤8)∧(o=25→n≤65536)):uq o k=decide (lS o≤k):=by
 obtain ⟨h1,h2,h3⟩:=hn
 rw [Bool.eq_iff_iff]
 unfold uq
 rw [decide_eq_true_eq,decide_eq_true_eq]
 rcases nt (show 1≤o∧o≤30 by omega) with rfl | rfl | rfl | rfl | rfl | rfl | rfl | rfl | rfl | rfl | rfl | rfl | rfl | rfl | rfl | rfl | rfl | rfl | rfl | rfl | rfl | rfl | rfl | rfl | rfl | rfl | rfl | rfl | rfl | rfl
 all_goals
  simp [bT] at h1 h2 h3
  simp [lS]
  try omega
theorem qM (o:Int) {l:List ag} {k:Nat} (h:k<l.length):mE o l k=if l[k].op=30 then (decide (lS o≤k)&&dX l[k]) else true:=by
 unfold mE
 have e:l.getD k default=l[k]:=by simp [List.getD,List.getElem?_eq_getElem h]
 rw [e]
 split
 next hz=>rw [Bool.eq_iff_iff,decide_eq_true_eq];simp [hz]
 next hz=>rw [decide_eq_true_eq];intro h;exact absurd h hz
theorem qL {o:Int} {l:List ag} (h:∀ j,j<l.length→mE o l j=true):eN o l=true:=by
 unfold eN
 rw [List.all_eq_true]
 intro j hj
 exact h j (List.mem_range.1 hj)
theorem jV {x:ag} {k:Nat} (hk:k<x.args.length) (h:mE x.op x.args k=false):bh x=false:=by
 rw [Bool.eq_false_iff]
 intro hf
 obtain ⟨_,_,_,_,_,ha,_⟩:=of_decide_eq_true hf
 unfold eN at ha
 rw [List.all_eq_true] at ha
 have:=ha k (List.mem_range.2 hk)
 rw [h] at this
 cases this
theorem jU {x:ag} (h:aQ x.op x.args.length=false):bh x=false:=by
 rw [Bool.eq_false_iff]
 intro hf
 obtain ⟨h1,h2,h3,h4,h5,_⟩:=of_decide_eq_true hf
 have:=of_decide_eq_false h
 exact this ⟨h1,h2,h3,h4,h5⟩
theorem kE {o:Int} {n:Nat} (h:aQ o n=true):(1≤o∧o≤29)∧(0≤bT o→(n:Int)=bT o)∧(o=21→n≤8)∧(o=25→n % 2=0):=by
 obtain ⟨h1,h2,h3,h4,h5⟩:=of_decide_eq_true h
 exact ⟨⟨h1,h2⟩,h3,h4,h5⟩
theorem As {o:Int} {n:Nat} (h:1≤o∧o≤29) (h0:0≤bT o):aQ o n=true↔(n:Int)=bT o:=by
 unfold aQ
 rw [decide_eq_true_eq]
 constructor
 ·rintro ⟨_,_,h3,_⟩
  exact h3 h0
 ·intro hn
  exact ⟨h.1,h.2,fun _=>hn,fun h=>(by subst h;exact absurd h0 (by decide)),fun h=>(by subst h;exact absurd h0 (by decide))⟩
theorem dF {x:ag} (hc:aQ x.op x.args.length=true) (ha:eN x.op x.args=true):bh x=true ↔
 (¬ (x.op=7∧(x.args.getD 1 default).op=30∧(x.args.getD 2 default).op=30)∧(eG x.op=true∨x.name.toList=[])∧(x.op=3∨bj x.val=true)∧(x.op=23∨(x.funcs.length:Int)=0) ∧
 ((x.op=12∨x.op=13)→eL x.op x.name.toList=true)∧(x.op=3→jo x.val=true)∧(x.op=23→(0:Int)<x.funcs.length)):=by
 obtain ⟨⟨h1,h2⟩,h3,h4,h5⟩:=kE hc
 unfold bh
 rw [decide_eq_true_eq,aH]
 simp only [Int.natCast_eq_zero,Int.natCast_pos]
 constructor
 ·rintro ⟨_,_,_,_,_,_,g1,g2,g3,g4,g5,g6,g7⟩
  exact ⟨g1,g2,g3,g4,g5,g6,g7⟩
 ·rintro ⟨g1,g2,g3,g4,g5,g6,g7⟩
  exact ⟨h1,h2,h3,h4,h5,ha,g1,g2,g3,g4,g5,g6,g7⟩
theorem xI {x:ag} (he:gk x.op) (hc:aQ x.op x.args.length=true) (ha:eN x.op x.args=true):bh x=true↔((eG x.op=true∨x.name.toList=[])∧bj x.val=true∧(x.funcs.length:Int)=0):=by
 obtain ⟨n3,n7,n12,n13,_,n23,_⟩:=he.ne
 rw [dF hc ha]
 constructor
 ·rintro ⟨_,g2,g3,g4,_⟩
  exact ⟨g2,g3.resolve_left n3,g4.resolve_left n23⟩
 ·rintro ⟨g2,g3,g4⟩
  exact ⟨fun h=>n7 h.1,g2,.inr g3,.inr g4,fun h=>(by rcases h with h | h;exact absurd h n12;exact absurd h n13),fun h=>absurd h n3,fun h=>absurd h n23⟩
theorem xK {x:ag} (ho:x.op=3) (hc:aQ x.op x.args.length=true) (ha:eN x.op x.args=true):bh x=true↔(x.name.toList=[]∧jo x.val=true∧(x.funcs.length:Int)=0):=by
 rw [dF hc ha,ho]
 simp [eG,ft]
 grind
theorem xJ {x:ag} (ho:x.op=7) (hc:aQ x.op x.args.length=true) (ha:eN x.op x.args=true):bh x=true↔(¬ ((x.args.getD 1 default).op=30∧(x.args.getD 2 default).op=30)∧x.name.toList=[]∧bj x.val=true∧(x.funcs.length:Int)=0):=by
 rw [dF hc ha,ho]
 simp [eG,ft]
theorem tl {x:ag} (ho:x.op=12) (hc:aQ x.op x.args.length=true) (ha:eN x.op x.args=true):bh x=true↔(bj x.val=true∧eL 12 x.name.toList=true∧(x.funcs.length:Int)=0):=by
 rw [dF hc ha,ho]
 simp [eG,ft]
 grind
theorem tj {x:ag} (ho:x.op=13) (hc:aQ x.op x.args.length=true) (ha:eN x.op x.args=true):bh x=true↔(bj x.val=true∧eL 13 x.name.toList=true∧(x.funcs.length:Int)=0):=by
 rw [dF hc ha,ho]
 simp [eG,ft]
 grind
theorem ti {x:ag} (ho:x.op=21) (hc:aQ x.op x.args.length=true) (ha:eN x.op x.args=true):bh x=true↔(bj x.val=true∧(x.funcs.length:Int)=0):=by
 rw [dF hc ha,ho]
 simp [eG,ft]
theorem th {x:ag} (ho:x.op=23) (hc:aQ x.op x.args.length=true) (ha:eN x.op x.args=true):bh x=true↔(x.name.toList=[]∧bj x.val=true∧(0:Int)<x.funcs.length):=by
 rw [dF hc ha,ho]
 simp [eG,ft]
theorem tg {x:ag} (ho:x.op=25) (hc:aQ x.op x.args.length=true) (ha:eN x.op x.args=true):bh x=true↔(x.name.toList=[]∧bj x.val=true∧(x.funcs.length:Int)=0):=by
 rw [dF hc ha,ho]
 simp [eG,ft]
end Go.Proofs.YtiefeajappjnbaaGreatDoor

/- Cells of functions and expressions in boxes; what a false part of a form says. No program here but for sizes. -/
namespace Go.Proofs.YtiefeajappjnbaaGreatDoor
open Go.RowKit
structure al.Has (w:World) (B N:Nat) (f:al) (cs:List Value) (pa:Option Addr) (pc:Nat) (es:List Value):Prop where
 len:cs.length=19
 name:cs[0]?=some (.string f.name)
 params:cs[1]?=some (.slice pa f.params.length pc)
 body:cs.drop 2=es
 one:∀ v∈cs,v.oneCell'=true
 hn:f.name.size≤N
 hp:f.params.length≤N
 atPar:aF w B N f.params pa
 atBody:ag.At w B N f.body es
theorem ag.At.one {w:World} {B N:Nat} {e:ag} {cs:List Value} (h:ag.At w B N e cs):∀ v∈cs,v.oneCell'=true:=by
 obtain ⟨ya,la,va,aa,fa,yc,lc,vc,ac,fc,rfl,_⟩:=h.row
 intro v hv
 simp only [ag.row,List.mem_cons,List.mem_nil_iff,or_false] at hv
 rcases hv with rfl | rfl | rfl | rfl | rfl | rfl | rfl | rfl | rfl | rfl | rfl | rfl | rfl | rfl | rfl | rfl | rfl<;>rfl
theorem al.At.has {w:World} {B N:Nat} {f:al} {cs:List Value} (h:al.At w B N f cs):∃ pa pc es,al.Has w B N f cs pa pc es:=by
 have hl:=h.len
 obtain ⟨nm,ps,e⟩:=f
 obtain ⟨pa,pc,es,rfl,h1,h2,h3,h4⟩:=h
 refine ⟨pa,pc,es,⟨hl,rfl,rfl,rfl,fun v hv=>?_,h1,h2,h3,h4⟩⟩
 simp only [List.mem_cons] at hv
 rcases hv with rfl | rfl | hv
 ·rfl
 ·rfl
 ·exact h4.one v hv
theorem aj.drop2 {w:World} {b:Nat} {cs es:List Value} (h:aj w b 0 cs) (hd:cs.drop 2=es):aj w b 2 es:=fun j hj=>by
 subst hd
 have hj':j+2<cs.length:=by simp at hj;omega
 have:=h (j+2) hj'
 rw [List.getElem?_drop,show 2+j=j+2 by omega,← this,show 0+(j+2)=j+2 by omega]
theorem cj:(Tryz.prog.info? 72).map (·.size)=some 19:=by kernel_rfl
theorem mN {x:ag} (h3:x.op≠3) (h:bj x.val=false):bh x=false:=by
 rw [Bool.eq_false_iff]
 intro hf
 obtain ⟨_,_,_,_,_,_,_,_,hz,_⟩:=of_decide_eq_true hf
 rcases hz with hz | hz
 ·exact h3 hz
 ·rw [h] at hz;cases hz
theorem oB {x:ag} (h3:x.op=3) (h:jo x.val=false):bh x=false:=by
 rw [Bool.eq_false_iff]
 intro hf
 obtain ⟨_,_,_,_,_,_,_,_,_,_,_,hz,_⟩:=of_decide_eq_true hf
 rw [h] at hz
 cases hz h3
theorem oC {x:ag} (h3:x.op≠23) (h:0<x.funcs.length):bh x=false:=by
 rw [Bool.eq_false_iff]
 intro hf
 obtain ⟨_,_,_,_,_,_,_,_,_,hz,_⟩:=of_decide_eq_true hf
 rcases hz with hz | hz
 ·exact h3 hz
 ·omega
theorem oD {x:ag} (h3:x.op=23) (h:¬ 0<x.funcs.length):bh x=false:=by
 rw [Bool.eq_false_iff]
 intro hf
 obtain ⟨_,_,_,_,_,_,_,_,_,_,_,_,hz⟩:=of_decide_eq_true hf
 exact h (hz h3)
theorem xy {o:Int} (he:gk o):eG o=(ft o || (o==5)):=by
 obtain ⟨_,_,n12,n13,n21,_,_⟩:=he.ne
 unfold eG
 congr 1
 rw [Bool.eq_iff_iff,decide_eq_true_eq]
 simp [n12,n13,n21]
end Go.Proofs.YtiefeajappjnbaaGreatDoor
