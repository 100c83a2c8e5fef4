/- From the model's reading of a program (its functions and its main expression) to the trees. -/
import Derived.Test.YtiefeajappjnbaaGreatDoorGM
import Derived.Test.YtiefeajappjnbaaGreatDoorNB
namespace Go.Proofs.YtiefeajappjnbaaGreatDoor
open Go.ChangeShapes Go.WideShapes Go.ChangeAt Go.RowKit Go.Deep
section
variable {H:Type} {enc:TypeId×Value→H} {w:World} {base:Nat} {spare:Nat→Bool} {held:Bool}
end
end Go.Proofs.YtiefeajappjnbaaGreatDoor

/- From the model's reading of a plan to the trees. -/
namespace Go.Proofs.YtiefeajappjnbaaGreatDoor
open Go.ChangeShapes Go.WideShapes Go.ChangeAt Go.RowKit Go.Deep
instance:Inhabited aL:=⟨⟨false,false,⟨#[]⟩,0⟩⟩
theorem yz:Tryz.prog.cellsOf 58=55:=by kernel_rfl
theorem vn:Tryz.prog.cellsOf 56=1:=by kernel_rfl
theorem my:Tryz.prog.cellsOf 94=4:=by kernel_rfl
theorem yy:Tryz.prog.cellsOf 92=3:=by kernel_rfl
section
variable {H:Type} {enc:TypeId×Value→H} {w:World} {base:Nat} {spare:Nat→Bool} {held:Bool}
set_option maxRecDepth 100000 in
theorem wn {N fuel:Nat} {cs:List Value} {x:DataW H×List MemPlace} (h:DataW.trod enc Tryz.prog w base spare held fuel 94 cs=some x) (hx:ec N x.1):∃ s:aL,cs=s.cells∧s.key.size≤N:=by
 obtain ⟨hlen,n,_,hf⟩:=bK Tryz.underlying94 h hx
 rw [my] at hlen
 match cs,hlen with
 | [c0,c1,c2,c3],_ =>
   obtain ⟨y0,h0,f0⟩:=hf 0 (by decide)
   obtain ⟨y1,h1,f1⟩:=hf 1 (by decide)
   simp [mA,yy] at h0 h1
   obtain ⟨b,e0⟩:=lT h0 f0
   obtain ⟨_,m,_,hg⟩:=bK Tryz.underlying92 h1 f1
   obtain ⟨z0,g0,q0⟩:=hg 0 (by decide)
   obtain ⟨z1,g1,q1⟩:=hg 1 (by decide)
   obtain ⟨z2,g2,q2⟩:=hg 2 (by decide)
   simp [mA,gH,kF] at g0 g1 g2
   obtain ⟨b1,e1⟩:=lT g0 q0
   obtain ⟨s,e2,k2⟩:=hO g1 q1
   obtain ⟨i,e3,_⟩:=gq g2 q2
   simp at e0 e1 e2 e3
   subst e0 e1 e2 e3
   exact ⟨⟨b,b1,s,i⟩,rfl,k2⟩
set_option maxRecDepth 100000 in
theorem ut {N fuel:Nat} {cs:List Value} {x:DataW H×List MemPlace} (h:DataW.trod enc Tryz.prog w base spare held fuel 56 cs=some x) (hx:ec N x.1):∃ a c l,cs=[.slice a (List.length l) c]∧l.length≤N∧l.length≤c∧bB w w.heap.size N l a:=by
 have hcap:=m8 Tryz.underlying56 h
 obtain ⟨a0,len,cap,e,hN,_,hz | ⟨b,o,m,rfl,hm,hb,hi⟩⟩:=cx Tryz.underlying56 (by rw [my];omega) h hx
 ·exact ⟨a0,cap,[],by rw [e,hz];rfl,by simp,Nat.zero_le _,trivial⟩
 have hlc:=hcap _ _ _ e
 rw [my] at hi
 obtain ⟨l,hl,hp⟩:=bN (α:=aL) (n:=len) (p:=fun i v=>v.key.size≤N∧aj w b (o+i * 4) v.cells) (fun i h=>by
  obtain ⟨cs,y,_,hc,hy,hf⟩:=hi i h
  obtain ⟨v,rfl,hv⟩:=wn hy hf
  exact ⟨v,hv,hc⟩)
 exact ⟨_,cap,l,by rw [e,hl],by omega,by omega,iT hb l o hp⟩
set_option maxRecDepth 100000 in
theorem wo {N fuel:Nat} {cs:List Value} {x:DataW H×List MemPlace} (h:DataW.trod enc Tryz.prog w base spare held fuel 58 cs=some x) (hx:ec N x.1) :
 ∃ (d:br) (l:List al),cJ w w.heap.size N d l cs∧∀ sa sc,cs[1]?=some (.slice sa d.steps.length sc)→d.steps.length≤sc:=by
 obtain ⟨hlen,n,hn,hf⟩:=bK Tryz.underlying58 h hx
 rw [yz] at hlen
 match cs,hlen with
 | c0::c1::c2::r,hlen =>
   have hr:r.length=52:=by simpa using hlen
   obtain ⟨y0,h0,f0⟩:=hf 0 (by decide)
   obtain ⟨y1,h1,f1⟩:=hf 1 (by decide)
   obtain ⟨y2,h2,f2⟩:=hf 2 (by decide)
   obtain ⟨y3,h3,f3⟩:=hf 3 (by decide)
   obtain ⟨y4,h4,f4⟩:=hf 4 (by decide)
   obtain ⟨y5,h5,f5⟩:=hf 5 (by decide)
   obtain ⟨y6,h6,f6⟩:=hf 6 (by decide)
   simp [kF,vn,gH,mz,qC] at h0 h1 h2 h3 h4 h5 h6
   obtain ⟨m,e0,_⟩:=gq h0 f0
   obtain ⟨sa,sc,st,e1,k1,k1',k1''⟩:=ut h1 f1
   obtain ⟨nm,e2,k2⟩:=hO h2 f2
   obtain ⟨i,k3⟩:=(iH n).1 h3 f3
   obtain ⟨u,k4⟩:=(iH n).1 h4 f4
   obtain ⟨b,k5⟩:=(iH n).1 h5 f5
   obtain ⟨c6,e6⟩:∃ c6,r.drop 51=[c6]:=List.length_eq_one_iff.1 (by rw [List.length_drop,hr])
   have F:∃ la lc l,[c6]=[Value.slice la (List.length l) lc]∧l.length≤N∧av w w.heap.size N l la:=by
    rw [e6] at h6
    obtain ⟨a0,len,cap,e,hN,_,hz | ⟨b,o,m,rfl,hm,hb,hi⟩⟩:=cx Tryz.underlying32 (by rw [j6];omega) h6 f6
    ·exact ⟨a0,cap,[],by rw [show [c6]=_ from e,hz];rfl,by simp,trivial⟩
    rw [j6] at hi
    obtain ⟨l,hl,hp⟩:=bN (α:=al) (n:=len) (p:=fun i v=>∃ cs,aj w b (o+i * 19) cs∧al.At w w.heap.size N v cs) (fun i h=>by
     obtain ⟨cs,y,_,hc,hy,hf⟩:=hi i h
     obtain ⟨v,hv⟩:=(iH m).2 hy hf
     exact ⟨v,cs,hc,hv⟩)
    exact ⟨_,cap,l,by rw [show [c6]=_ from e,hl],by omega,gL hb l o hp⟩
   obtain ⟨fa,fc,f,k6,k6',k6''⟩:=F
   simp at e0 e1 e2 k6
   subst e0 e1 e2 k6
   have er:r=r.take 17++((r.drop 17).take 17++((r.drop 34).take 17++r.drop 51)):=by
    have q1:=List.take_append_drop 17 r
    have q2:=List.take_append_drop 17 (r.drop 17)
    have q3:=List.take_append_drop 17 (r.drop 34)
    rw [List.drop_drop] at q2 q3
    rw [show r.drop 51=r.drop (34+17) from rfl,q3,show r.drop 34=r.drop (17+17) from rfl,q2,q1]
   rw [e6] at er
   refine ⟨⟨m,st,nm,i,u,b⟩,f,⟨sa,sc,r.take 17,(r.drop 17).take 17,(r.drop 34).take 17,fa,fc,?_,k1,k2,k6',k1'',k3,k4,k5,k6''⟩,?_⟩
   ·show _::_::_::r=_::_::_::_
    rw [← er]
   ·intro sa' sc' h'
    have h'':some (Value.slice sa st.length sc)=some (.slice sa' st.length sc'):=h'
    simp at h''
    show st.length≤sc'
    rw [← h''.2]
    exact k1'
end
end Go.Proofs.YtiefeajappjnbaaGreatDoor
