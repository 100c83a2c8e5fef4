/- What lives on while a few blocks are written: copies, as a walk goes on. -/
import Derived.Test.YtiefeajappjnbaaGreatDoorHG
import Derived.Test.YtiefeajappjnbaaGreatDoorHH
import Derived.Laws.Tables
namespace Go.Proofs.YtiefeajappjnbaaGreatDoor
open Go.RowKit
def cA (M:Nat) (X:Nat→Prop) (u:World) (T:World→Prop):Prop:=∀ c:World,u.heap.size≤c.heap.size→(∀ k,M≤k→k<u.heap.size→¬ X k→c.heap[k]?=u.heap[k]?)→T c
theorem cA.of {L M:Nat} {X:Nat→Prop} {a u:World} {T:World→Prop} (hs:bF L none a T) (hk:bO L none a u) (hM:M≤L) (hX:∀ k,X k→k<L∨a.heap.size≤k):cA M X u T:=fun c h1 h2 =>
 hs c ⟨Nat.le_trans hk.1 h1,fun k hk1 hk2 _=>(h2 k (Nat.le_trans hM hk1) (Nat.lt_of_lt_of_le hk2 hk.1) (fun hx=>by rcases hX k hx with h | h<;>omega)).trans (hk.2 k hk1 hk2 (by simp))⟩
theorem cA.step {M:Nat} {X Y:Nat→Prop} {u v:World} {T:World→Prop} (h:cA M X u T) (hs:u.heap.size≤v.heap.size) (hk:∀ k,M≤k→k<u.heap.size→¬ X k→v.heap[k]?=u.heap[k]?) (hY:∀ k,Y k→X k∨u.heap.size≤k):cA M Y v T:=fun c h1 h2 =>
 h c (Nat.le_trans hs h1) (fun k a b d=>(h2 k a (Nat.lt_of_lt_of_le b hs) (fun y=>by rcases hY k y with h | h;exact d h;omega)).trans (hk k a b d))
theorem cA.below {M:Nat} {X:Nat→Prop} {u v:World} {T:World→Prop} (h:cA M X u T) (hb:Below u.heap.size u v):cA M X v T:=h.step hb.size (fun k _ h2 _=>hb.block k h2) (fun _ h=>.inl h)
theorem cA.row {M g:Nat} {X:Nat→Prop} {u:World} {T:World→Prop} {new:Array Value} (h:cA M X u T) (hg:X g):cA M X (u.setRow g new) T :=
 h.step (by rw [setRow_size];exact Nat.le_refl _) (fun k _ _ h3=>setRow_other u g k new (fun e=>h3 (e ▸ hg))) (fun _ h=>.inl h)
theorem cA.cell {M g j:Nat} {X:Nat→Prop} {u:World} {T:World→Prop} {v:Value} (h:cA M X u T) (hg:X g):cA M X (u.setCell ⟨g,j,none⟩ v) T :=
 h.step (by simp) (fun k _ _ h3=>heap_setCell_other _ _ _ _ (fun e=>h3 (by simp at e;exact e ▸ hg))) (fun _ h=>.inl h)
theorem cA.lowRow {M g:Nat} {X:Nat→Prop} {u:World} {T:World→Prop} {new:Array Value} (h:cA M X u T) (hg:g<M):cA M X (u.setRow g new) T :=
 h.step (by rw [setRow_size];exact Nat.le_refl _) (fun k h1 _ _=>setRow_other u g k new (by omega)) (fun _ h=>.inl h)
theorem cA.more {M g:Nat} {X:Nat→Prop} {u:World} {T:World→Prop} (h:cA M X u T) (hg:u.heap.size≤g):cA M (fun k=>X k∨k=g) u T :=
 h.step (Nat.le_refl _) (fun _ _ _ _=>rfl) (fun _ hk=>hk.elim .inl (fun e=>.inr (e ▸ hg)))
theorem cA.here {M:Nat} {X:Nat→Prop} {u:World} {T:World→Prop} (h:cA M X u T):T u:=h u (Nat.le_refl _) (fun _ _ _ _=>rfl)
theorem eB {L g:Nat} {a u:World} {new:Array Value} (h:bO L none a u) (hg:g<L∨a.heap.size≤g):bO L none a (u.setRow g new) :=
 ⟨by rw [setRow_size];exact h.1,fun k h1 h2 h3=>(setRow_other u g k new (by omega)).trans (h.2 k h1 h2 h3)⟩
theorem cK {L:Nat} {a u v:World} (h:bO L none a u) (hb:Below u.heap.size u v):bO L none a v :=
 ⟨Nat.le_trans h.1 hb.size,fun k h1 h2 h3=>(hb.block k (Nat.lt_of_lt_of_le h2 h.1)).trans (h.2 k h1 h2 h3)⟩
end Go.Proofs.YtiefeajappjnbaaGreatDoor

/- The literal of a plan: what its operation builds. -/
namespace Go.Proofs.YtiefeajappjnbaaGreatDoor
open Go.RowKit
theorem ij (d:Nat):∀ (cs:List Value) (n:Nat) (Z:Array Value),List.foldl (fun (a:Array Value) (x:Value×Nat)=>a.setIfInBounds (d+x.2) x.1) Z (cs.zipIdx n)=List.foldl (fun (a:Array Value) (x:Value×Nat)=>a.setIfInBounds x.2 x.1) Z (cs.zipIdx (d+n))
 | [],_,_=>rfl
 | c::cs,n,Z=>by
   rw [List.zipIdx_cons,List.zipIdx_cons,List.foldl_cons,List.foldl_cons,ij d cs (n+1)]
   rfl
theorem me:∀ (cs:List Value) (n:Nat) (Z:Array Value),n+cs.length≤Z.size→List.foldl (fun (a:Array Value) (x:Value×Nat)=>a.setIfInBounds x.2 x.1) Z (cs.zipIdx n)=(Z.toList.take n++cs++Z.toList.drop (n+cs.length)).toArray
 | [],n,Z,_=>by simp
 | c::cs,n,Z,h=>by
   rw [List.zipIdx_cons,List.foldl_cons,me cs (n+1) _ (by simp at h ⊢;omega)]
   have e:=list_seg_step Z.toList n c cs (by simp at h ⊢;omega)
   simp only [Array.toList_setIfInBounds]
   rw [e,List.length_cons]
theorem xM (cs:List Value) (h:cs.length=17):List.foldl (fun (a:Array Value) (x:Value×Nat)=>a.setIfInBounds (37+x.2) x.1) (ao 1 (.slice none 0 0) ⟨#[]⟩ ai ai ai (.slice none 0 0)).toArray cs.zipIdx=(ao 1 (.slice none 0 0) ⟨#[]⟩ ai ai cs (.slice none 0 0)).toArray:=by
 rw [ij 37,me cs 37 _ (by rw [h];exact (by decide:37+17≤55)),h]
 rfl
theorem Br (m:Int) (sv:Value) (nm:ByteArray) {ics ucs bcs:List Value} (fv gv:Value) (h1:ics.length=17) (h2:ucs.length=17) (h3:bcs.length=17):(ao m sv nm ics ucs bcs fv).set 54 gv=ao m sv nm ics ucs bcs gv:=by
 show _::_::_::(ics++(ucs++(bcs++[fv]))).set 51 gv=_
 rw [List.set_append_right _ _ (by omega),List.set_append_right _ _ (by omega),List.set_append_right _ _ (by omega),h1,h2,h3]
 rfl
def ew:Array (Nat×Nat):=#[(0,1),(1,1),(2,1),(3,17),(20,17),(37,17),(54,1)]
theorem Ck (r:List (Nat×Value)):Instr.fill (ew[·]?) aB.toArray ((0,.int .i64 1)::r)=Instr.fill (ew[·]?) (ao 1 (.slice none 0 0) ⟨#[]⟩ ai ai ai (.slice none 0 0)).toArray r:=rfl
theorem Cj (bcs:List Value) (hb:bcs.length=17) (r:List (Nat×Value)):Instr.fill (ew[·]?) (ao 1 (.slice none 0 0) ⟨#[]⟩ ai ai ai (.slice none 0 0)).toArray ((5,.agg bcs.toArray)::r)=Instr.fill (ew[·]?) (ao 1 (.slice none 0 0) ⟨#[]⟩ ai ai bcs (.slice none 0 0)).toArray r:=by
 have hs:(ao 1 (.slice none 0 0) ⟨#[]⟩ ai ai ai (.slice none 0 0)).toArray.size=55:=rfl
 have hc:(Value.agg bcs.toArray).cells=bcs.toArray:=rfl
 have hp:ew[5]?=some (37,17):=rfl
 rw [Instr.fill]
 simp only [hp,hc,hs,List.size_toArray,hb]
 rw [if_neg (by decide)]
 have h:=xM bcs hb
 rw [← Array.foldl_toList,Array.toList_zipIdx]
 exact congrArg (fun z=>Instr.fill (ew[·]?) z r) h
theorem Ci (bcs:List Value) (hb:bcs.length=17) (a:Option Addr) (n c:Nat):Instr.fill (ew[·]?) (ao 1 (.slice none 0 0) ⟨#[]⟩ ai ai bcs (.slice none 0 0)).toArray [(6,.slice a n c)]=some (ao 1 (.slice none 0 0) ⟨#[]⟩ ai ai bcs (.slice a n c)).toArray:=by
 have hs:(ao 1 (.slice none 0 0) ⟨#[]⟩ ai ai bcs (.slice none 0 0)).toArray.size=55:=by rw [List.size_toArray,bl _ _ _ _ rfl rfl hb]
 show (if (decide ((1:Nat)≠1) || decide (54+1 > (ao 1 (.slice none 0 0) ⟨#[]⟩ ai ai bcs (.slice none 0 0)).toArray.size))=true then none else some ((ao 1 (.slice none 0 0) ⟨#[]⟩ ai ai bcs (.slice none 0 0)).toArray.setIfInBounds 54 (.slice a n c)))=_
 rw [if_neg (by rw [hs];decide),List.setIfInBounds_toArray,Br _ _ _ _ _ rfl rfl hb]
theorem lr (bcs:List Value) (hb:bcs.length=17) (a:Option Addr) (n c:Nat):Tryz.prog.built 58 [(0,.int .i64 1),(5,.agg bcs.toArray),(6,.slice a n c)]=some (ao 1 (.slice none 0 0) ⟨#[]⟩ ai ai bcs (.slice a n c)).toArray:=by
 have p1:(Tryz.prog.info? 58).bind (·.zero)=some (.agg aB.toArray):=by kernel_rfl
 have p2:(Tryz.prog.fieldsOf 58).toList.mapM (fun f=>(Tryz.prog.info? f.type).map fun i=>(f.offset,i.size))=some [(0,1),(1,1),(2,1),(3,17),(20,17),(37,17),(54,1)]:=by kernel_rfl
 have hu:Tryz.prog.underlying 58=some (.struct (Tryz.prog.fieldsOf 58)):=by kernel_rfl
 cases hi:Tryz.prog.info? 58 with
 | none=>rw [hi] at p1;cases p1
 | some it =>
   rw [hi] at p1
   have p1':it.zero=some (.agg aB.toArray):=p1
   unfold Program.built
   rw [hi,hu]
   simp only [p1',p2]
   show Instr.fill (ew[·]?) aB.toArray _=_
   rw [Ck,Cj bcs hb,Ci bcs hb]
theorem ff {P:Program} {o:Oper} {a:Act} {w:World} {K:Act→World→Prop} {Q:Exit→Act→World→Prop} (t:TypeId) (parts:Array (Nat×Operand)) (ho:o.op=.build t parts) (cells:Array Value)
 (hf:P.built t (parts.map fun (i,x)=>(i,a.eval x)).toList=some cells) (h:K (a.put o.dst (.agg cells)) w):o.wp P a w K Q :=
 wp_build t parts ho (by rw [hf];rfl) (by rw [hf];exact h)
end Go.Proofs.YtiefeajappjnbaaGreatDoor
