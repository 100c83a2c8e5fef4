/- Values and expressions as trees, and what it means that cells in memory hold such a tree. -/
import Derived.Below
import Derived.Laws.AppendOwn
import Derived.Deep.Slices
import Derived.Deep.RegionHeld3
import Derived.Lib.Hide
import Derived.Deep.MidRow
namespace Go.Proofs.YtniljgkkcnekgaaGreatDoor
open Go.RowKit Go.Deep
structure DecD where
 neg:Bool
 digits:ByteArray
 exp:Int
structure TimeD where
 kind:Int
 day:Int
 nano:Int
 offset:Int
inductive ValD where
 | mk (kind:Int) (bool:Bool) (num:DecD) (time:TimeD) (text:ByteArray) (bytes:List Int) (list:List ValD) (fields:List (ByteArray×ValD))
instance:Inhabited DecD:=⟨⟨false,ByteArray.empty,0⟩⟩
instance:Inhabited TimeD:=⟨⟨0,0,0,0⟩⟩
instance:Inhabited ValD:=⟨.mk 0 false default default ByteArray.empty [] [] []⟩
structure ParD where
 name:ByteArray
 value:Bool
instance:Inhabited ParD:=⟨⟨ByteArray.empty,false⟩⟩
mutual
inductive ExprD where
 | mk (op:Int) (name:ByteArray) (val:ValD) (args:List ExprD) (funcs:List FuncD)
inductive FuncD where
 | mk (name:ByteArray) (params:List ParD) (body:ExprD)
end
instance:Inhabited ExprD:=⟨.mk 0 ByteArray.empty default [] []⟩
instance:Inhabited FuncD:=⟨.mk ByteArray.empty [] default⟩
def ValD.kind:ValD→Int | .mk k _ _ _ _ _ _ _=>k
def ValD.bool:ValD→Bool | .mk _ b _ _ _ _ _ _=>b
def ValD.num:ValD→DecD | .mk _ _ n _ _ _ _ _=>n
def ValD.time:ValD→TimeD | .mk _ _ _ t _ _ _ _=>t
def ValD.text:ValD→ByteArray | .mk _ _ _ _ x _ _ _=>x
def ValD.bytes:ValD→List Int | .mk _ _ _ _ _ y _ _=>y
def ValD.list:ValD→List ValD | .mk _ _ _ _ _ _ l _=>l
def ValD.fields:ValD→List (ByteArray×ValD) | .mk _ _ _ _ _ _ _ f=>f
def ExprD.op:ExprD→Int | .mk o _ _ _ _=>o
def ExprD.name:ExprD→ByteArray | .mk _ n _ _ _=>n
def ExprD.val:ExprD→ValD | .mk _ _ v _ _=>v
def ExprD.args:ExprD→List ExprD | .mk _ _ _ a _=>a
def ExprD.funcs:ExprD→List FuncD | .mk _ _ _ _ f=>f
def FuncD.name:FuncD→ByteArray | .mk n _ _=>n
def FuncD.params:FuncD→List ParD | .mk _ p _=>p
def FuncD.body:FuncD→ExprD | .mk _ _ e=>e
def I64 (n:Int):Prop:=-9223372036854775808≤n∧n≤9223372036854775807
def CellsAt (w:World) (b o:Nat) (cs:List Value):Prop:=∀ j,j<cs.length→w.cell? ⟨b,o+j,none⟩=cs[j]?
def BytesAt (w:World) (B:Nat) (l:List Int) (a:Option Addr):Prop :=
 l=[]∨∃ b o,a=some ⟨b,o,none⟩∧b<B∧CellsAt w b o (l.map (Value.int .u8))∧∀ x∈l,0≤x∧x≤255
def ParD.cells (p:ParD):List Value:=[.string p.name,.bool p.value]
def ParamsAt (w:World) (B N:Nat):List ParD→Option Addr→Prop
 | [],_=>True
 | p::r,a=>∃ b o,a=some ⟨b,o,none⟩∧b<B∧p.name.size≤N∧CellsAt w b o p.cells∧ParamsAt w B N r (some ⟨b,o+2,none⟩)
def ValD.cellsOf (v:ValD) (ya la fa:Option Addr) (yc lc fc:Nat):List Value :=
 [.int .i64 v.kind,.bool v.bool,.bool v.num.neg,.string v.num.digits,.int .i64 v.num.exp,.int .i64 v.time.kind,.int .i64 v.time.day,.int .i64 v.time.nano,.int .i64 v.time.offset,
  .string v.text,.slice ya v.bytes.length yc,.slice la v.list.length lc,.slice fa v.fields.length fc]
def ValD.Own (v:ValD) (N:Nat):Prop :=
 I64 v.kind∧I64 v.num.exp∧I64 v.time.kind∧I64 v.time.day∧I64 v.time.nano∧I64 v.time.offset∧v.num.digits.size≤N∧v.text.size≤N∧v.bytes.length≤N∧v.list.length≤N∧v.fields.length≤N
mutual
def ValD.At (w:World) (B N:Nat):ValD→List Value→Prop
 | .mk k b n t x y l f,cs=>∃ ya la fa yc lc fc,cs=ValD.cellsOf (.mk k b n t x y l f) ya la fa yc lc fc∧ValD.Own (.mk k b n t x y l f) N∧BytesAt w B y ya∧ValsAt w B N l la∧FieldsAt w B N f fa
def ValsAt (w:World) (B N:Nat):List ValD→Option Addr→Prop
 | [],_=>True
 | v::r,a=>(∃ b o cs,a=some ⟨b,o,none⟩∧b<B∧CellsAt w b o cs∧ValD.At w B N v cs)∧ValsAt w B N r (a.map fun a=>⟨a.block,a.off+13,none⟩)
def FieldsAt (w:World) (B N:Nat):List (ByteArray×ValD)→Option Addr→Prop
 | [],_=>True
 | (k,v)::r,a=>(∃ b o cs,a=some ⟨b,o,none⟩∧b<B∧k.size≤N∧CellsAt w b o (.string k::cs)∧ValD.At w B N v cs)∧FieldsAt w B N r (a.map fun a=>⟨a.block,a.off+14,none⟩)
end
def ExprD.cellsOf (e:ExprD) (vs:List Value) (aa fa:Option Addr) (ac fc:Nat):List Value :=
 .int .i64 e.op::.string e.name::(vs++[.slice aa e.args.length ac,.slice fa e.funcs.length fc])
def ExprD.Own (e:ExprD) (N:Nat):Prop:=I64 e.op∧e.name.size≤N∧e.args.length≤N∧e.funcs.length≤N
mutual
def ExprD.At (w:World) (B N:Nat):ExprD→List Value→Prop
 | .mk op nm v as fs,cs=>∃ vs aa fa ac fc,cs=ExprD.cellsOf (.mk op nm v as fs) vs aa fa ac fc∧ExprD.Own (.mk op nm v as fs) N∧ValD.At w B N v vs∧ExprsAt w B N as aa∧FuncsAt w B N fs fa∧as.length≤ac
def ExprsAt (w:World) (B N:Nat):List ExprD→Option Addr→Prop
 | [],_=>True
 | e::r,a=>(∃ b o cs,a=some ⟨b,o,none⟩∧b<B∧CellsAt w b o cs∧ExprD.At w B N e cs)∧ExprsAt w B N r (a.map fun a=>⟨a.block,a.off+17,none⟩)
def FuncD.At (w:World) (B N:Nat):FuncD→List Value→Prop
 | .mk nm ps e,cs=>∃ pa pc es,cs=.string nm::.slice pa ps.length pc::es∧nm.size≤N∧ps.length≤N∧ParamsAt w B N ps pa∧ExprD.At w B N e es
def FuncsAt (w:World) (B N:Nat):List FuncD→Option Addr→Prop
 | [],_=>True
 | f::r,a=>(∃ b o cs,a=some ⟨b,o,none⟩∧b<B∧CellsAt w b o cs∧FuncD.At w B N f cs)∧FuncsAt w B N r (a.map fun a=>⟨a.block,a.off+19,none⟩)
end
section
variable {w w':World} {B N:Nat}
theorem CellsAt.below {b o:Nat} {cs:List Value} (h:CellsAt w b o cs) (hb:Below B w w') (hlt:b<B):CellsAt w' b o cs:=fun j hj=>(hb.cell hlt).trans (h j hj)
theorem BytesAt.below {l:List Int} {a:Option Addr} (h:BytesAt w B l a) (hb:Below B w w'):BytesAt w' B l a:=by
 rcases h with h | ⟨b,o,h1,h2,h3,h4⟩
 ·exact .inl h
 ·exact .inr ⟨b,o,h1,h2,h3.below hb h2,h4⟩
theorem ParamsAt.below (hb:Below B w w'):∀ (l:List ParD) {a:Option Addr},ParamsAt w B N l a→ParamsAt w' B N l a
 | [],_,_=>trivial
 | _::r,_,⟨b,o,h1,h2,h3,h4,h5⟩=>⟨b,o,h1,h2,h3,h4.below hb h2,ParamsAt.below hb r h5⟩
mutual
theorem ValD.At.below (hb:Below B w w'):∀ (v:ValD) {cs:List Value},ValD.At w B N v cs→ValD.At w' B N v cs
 | .mk _ _ _ _ _ _ l f,_,⟨ya,la,fa,yc,lc,fc,h1,h2,h3,h4,h5⟩=>⟨ya,la,fa,yc,lc,fc,h1,h2,h3.below hb,ValsAt.below hb l h4,FieldsAt.below hb f h5⟩
theorem ValsAt.below (hb:Below B w w'):∀ (l:List ValD) {a:Option Addr},ValsAt w B N l a→ValsAt w' B N l a
 | [],_,_=>trivial
 | v::r,_,⟨⟨b,o,cs,h1,h2,h3,h4⟩,h5⟩=>⟨⟨b,o,cs,h1,h2,h3.below hb h2,ValD.At.below hb v h4⟩,ValsAt.below hb r h5⟩
theorem FieldsAt.below (hb:Below B w w'):∀ (l:List (ByteArray×ValD)) {a:Option Addr},FieldsAt w B N l a→FieldsAt w' B N l a
 | [],_,_=>trivial
 | (_,v)::r,_,⟨⟨b,o,cs,h1,h2,h0,h3,h4⟩,h5⟩=>⟨⟨b,o,cs,h1,h2,h0,h3.below hb h2,ValD.At.below hb v h4⟩,FieldsAt.below hb r h5⟩
end
mutual
theorem ExprD.At.below (hb:Below B w w'):∀ (e:ExprD) {cs:List Value},ExprD.At w B N e cs→ExprD.At w' B N e cs
 | .mk _ _ v as fs,_,⟨vs,aa,fa,ac,fc,h1,h2,h3,h4,h5,h6⟩=>⟨vs,aa,fa,ac,fc,h1,h2,ValD.At.below hb v h3,ExprsAt.below hb as h4,FuncsAt.below hb fs h5,h6⟩
theorem ExprsAt.below (hb:Below B w w'):∀ (l:List ExprD) {a:Option Addr},ExprsAt w B N l a→ExprsAt w' B N l a
 | [],_,_=>trivial
 | e::r,_,⟨⟨b,o,cs,h1,h2,h3,h4⟩,h5⟩=>⟨⟨b,o,cs,h1,h2,h3.below hb h2,ExprD.At.below hb e h4⟩,ExprsAt.below hb r h5⟩
theorem FuncD.At.below (hb:Below B w w'):∀ (f:FuncD) {cs:List Value},FuncD.At w B N f cs→FuncD.At w' B N f cs
 | .mk _ ps e,_,⟨pa,pc,es,h1,h2,h3,h4,h5⟩=>⟨pa,pc,es,h1,h2,h3,ParamsAt.below hb ps h4,ExprD.At.below hb e h5⟩
theorem FuncsAt.below (hb:Below B w w'):∀ (l:List FuncD) {a:Option Addr},FuncsAt w B N l a→FuncsAt w' B N l a
 | [],_,_=>trivial
 | f::r,_,⟨⟨b,o,cs,h1,h2,h3,h4⟩,h5⟩=>⟨⟨b,o,cs,h1,h2,h3.below hb h2,FuncD.At.below hb f h4⟩,FuncsAt.below hb r h5⟩
end
theorem BytesAt.mono {B':Nat} {l:List Int} {a:Option Addr} (h:BytesAt w B l a) (hB:B≤B'):BytesAt w B' l a:=by
 rcases h with h | ⟨b,o,h1,h2,h3⟩
 ·exact .inl h
 ·exact .inr ⟨b,o,h1,Nat.lt_of_lt_of_le h2 hB,h3⟩
theorem ParamsAt.mono {B':Nat} (hB:B≤B'):∀ (l:List ParD) {a:Option Addr},ParamsAt w B N l a→ParamsAt w B' N l a
 | [],_,_=>trivial
 | _::r,_,⟨b,o,h1,h2,h3,h4,h5⟩=>⟨b,o,h1,Nat.lt_of_lt_of_le h2 hB,h3,h4,ParamsAt.mono hB r h5⟩
mutual
theorem ValD.At.mono {B':Nat} (hB:B≤B'):∀ (v:ValD) {cs:List Value},ValD.At w B N v cs→ValD.At w B' N v cs
 | .mk _ _ _ _ _ _ l f,_,⟨ya,la,fa,yc,lc,fc,h1,h2,h3,h4,h5⟩=>⟨ya,la,fa,yc,lc,fc,h1,h2,h3.mono hB,ValsAt.mono hB l h4,FieldsAt.mono hB f h5⟩
theorem ValsAt.mono {B':Nat} (hB:B≤B'):∀ (l:List ValD) {a:Option Addr},ValsAt w B N l a→ValsAt w B' N l a
 | [],_,_=>trivial
 | v::r,_,⟨⟨b,o,cs,h1,h2,h3,h4⟩,h5⟩=>⟨⟨b,o,cs,h1,Nat.lt_of_lt_of_le h2 hB,h3,ValD.At.mono hB v h4⟩,ValsAt.mono hB r h5⟩
theorem FieldsAt.mono {B':Nat} (hB:B≤B'):∀ (l:List (ByteArray×ValD)) {a:Option Addr},FieldsAt w B N l a→FieldsAt w B' N l a
 | [],_,_=>trivial
 | (_,v)::r,_,⟨⟨b,o,cs,h1,h2,h0,h3,h4⟩,h5⟩=>⟨⟨b,o,cs,h1,Nat.lt_of_lt_of_le h2 hB,h0,h3,ValD.At.mono hB v h4⟩,FieldsAt.mono hB r h5⟩
end
mutual
theorem ExprD.At.mono {B':Nat} (hB:B≤B'):∀ (e:ExprD) {cs:List Value},ExprD.At w B N e cs→ExprD.At w B' N e cs
 | .mk _ _ v as fs,_,⟨vs,aa,fa,ac,fc,h1,h2,h3,h4,h5,h6⟩=>⟨vs,aa,fa,ac,fc,h1,h2,ValD.At.mono hB v h3,ExprsAt.mono hB as h4,FuncsAt.mono hB fs h5,h6⟩
theorem ExprsAt.mono {B':Nat} (hB:B≤B'):∀ (l:List ExprD) {a:Option Addr},ExprsAt w B N l a→ExprsAt w B' N l a
 | [],_,_=>trivial
 | e::r,_,⟨⟨b,o,cs,h1,h2,h3,h4⟩,h5⟩=>⟨⟨b,o,cs,h1,Nat.lt_of_lt_of_le h2 hB,h3,ExprD.At.mono hB e h4⟩,ExprsAt.mono hB r h5⟩
theorem FuncD.At.mono {B':Nat} (hB:B≤B'):∀ (f:FuncD) {cs:List Value},FuncD.At w B N f cs→FuncD.At w B' N f cs
 | .mk _ ps e,_,⟨pa,pc,es,h1,h2,h3,h4,h5⟩=>⟨pa,pc,es,h1,h2,h3,ParamsAt.mono hB ps h4,ExprD.At.mono hB e h5⟩
theorem FuncsAt.mono {B':Nat} (hB:B≤B'):∀ (l:List FuncD) {a:Option Addr},FuncsAt w B N l a→FuncsAt w B' N l a
 | [],_,_=>trivial
 | f::r,_,⟨⟨b,o,cs,h1,h2,h3,h4⟩,h5⟩=>⟨⟨b,o,cs,h1,Nat.lt_of_lt_of_le h2 hB,h3,FuncD.At.mono hB f h4⟩,FuncsAt.mono hB r h5⟩
end
end
end Go.Proofs.YtniljgkkcnekgaaGreatDoor

/- Steps of a region that draws its order, with their side conditions proved by themselves. -/
namespace Go.Proofs.YtniljgkkcnekgaaGreatDoor
open Go.RowKit

/-- The one operation that is ready. -/
theorem rd1 {P : Program} {md : Region.Mode} {ops : Array Oper} {Q : Exit → Act → World → Prop} {S : World → Prop} {fuel : Nat} {listed : Array Bool} {a : Act} {w : World} (i : Nat) {o : Oper} (ho : ops[i]? = some o)
    (h : ∀ K' : Act → World → Prop, Shut (∀ a w, S w → (S w → wpAnyH P md ops Q S fuel (listed.setIfInBounds i true) a w) → K' a w) → if Region.wanted o (yielded ops a.tmps) = true then Oper.wp P o a w K' Q else K' (a.put o.dst undef) w)
    (hr : Region.ready md ops listed = [i] := by kernel_rfl) : wpAnyH P md ops Q S (fuel + 1) listed a w := wpAnyH_ready hr (by simp) (AllReadyH.cons ho h AllReadyH.nil)
/-- An operation that may be taken first, the state written out as a list. -/
theorem tk {P : Program} {ops : Array Oper} {Q : Exit → Act → World → Prop} {md : Region.Mode} {S : World → Prop} {oi : Oper} {fuel : Nat} {listed : Array Bool} {l : List Value} {df : List Deferred} {w : World} (i : Nat) (v : Value) {t : Nat} (hi : ops[i]? = some oi) (hd : oi.dst = some t)
    (hy : YieldsIf P ops S oi v ⟨l.toArray, df⟩) (hS : S w) (h : wpAnyH P md ops Q S fuel (listed.setIfInBounds i true) ⟨(l.set t v).toArray, df⟩ w)
    (hs : Region.noSelect ops = true := by kernel_rfl) (hf : Region.free md ops listed i = true := by kernel_rfl) (hr : (Region.ready md ops listed).contains i = true := by kernel_rfl)
    (hQ : ∀ c a w, Q (.panic c) (a.put oi.dst v) w → Q (.panic c) a w := by exact fun _ _ _ h => h) : wpAnyH P md ops Q S (fuel + 1) listed ⟨l.toArray, df⟩ w := by
  refine wpAnyH_take hi hs hf hr hQ hy hS ?_
  have e : Act.put (⟨l.toArray, df⟩ : Act) oi.dst v = ⟨(l.set t v).toArray, df⟩ := by
    rw [hd]
    simp [Act.put]
  rw [e]
  exact h
theorem sq1 {α : Type} {a b : α} {l : List α} {n : Nat} : (a :: l).set (n + 1) b = a :: l.set n b := rfl
theorem sq0 {α : Type} {a b : α} {l : List α} : (a :: l).set 0 b = b :: l := rfl
/-- The zero expression's cells, the zero plan's, the input's. -/
abbrev zE0 : Array Value := #[.int .i64 0, .string ⟨#[]⟩, .int .i64 0, .bool false, .bool false, .string ⟨#[]⟩, .int .i64 0, .int .i64 0, .int .i64 0, .int .i64 0, .int .i64 0, .string ⟨#[]⟩, .slice none 0 0, .slice none 0 0, .slice none 0 0, .slice none 0 0, .slice none 0 0]
abbrev zP0 : Array Value := #[.int .i64 0, .slice none 0 0, .string ⟨#[]⟩, .int .i64 0, .string ⟨#[]⟩, .int .i64 0, .bool false, .bool false, .string ⟨#[]⟩, .int .i64 0, .int .i64 0, .int .i64 0, .int .i64 0, .int .i64 0, .string ⟨#[]⟩, .slice none 0 0, .slice none 0 0, .slice none 0 0, .slice none 0 0, .slice none 0 0, .int .i64 0, .string ⟨#[]⟩, .int .i64 0, .bool false, .bool false, .string ⟨#[]⟩, .int .i64 0, .int .i64 0, .int .i64 0, .int .i64 0, .int .i64 0, .string ⟨#[]⟩, .slice none 0 0, .slice none 0 0, .slice none 0 0, .slice none 0 0, .slice none 0 0, .int .i64 0, .string ⟨#[]⟩, .int .i64 0, .bool false, .bool false, .string ⟨#[]⟩, .int .i64 0, .int .i64 0, .int .i64 0, .int .i64 0, .int .i64 0, .string ⟨#[]⟩, .slice none 0 0, .slice none 0 0, .slice none 0 0, .slice none 0 0, .slice none 0 0, .slice none 0 0]
abbrev iE0 : List Value := [.int .i64 1, .string ⟨#[]⟩, .int .i64 0, .bool false, .bool false, .string ⟨#[]⟩, .int .i64 0, .int .i64 0, .int .i64 0, .int .i64 0, .int .i64 0, .string ⟨#[]⟩, .slice none 0 0, .slice none 0 0, .slice none 0 0, .slice none 0 0, .slice none 0 0]
theorem Hd {p : Prop} (h : p) : Hid p := Lib.hid h
end Go.Proofs.YtniljgkkcnekgaaGreatDoor

/- Dates as plain functions: years, months, days (layer 4). No program here. -/
namespace Go.Proofs.YtniljgkkcnekgaaGreatDoor
def leapN (y:Nat):Bool:=decide (y % 4=0∧(y % 100≠0∨y % 400=0))
def monN (y m:Nat):Nat:=if m=2 then (if leapN y=true then 29 else 28) else if m=4∨m=6∨m=9∨m=11 then 30 else 31
def preM (y:Nat):Nat→Nat
 | 0=>0
 | 1=>0
 | m+2=>preM y (m+1)+monN y (m+1)
def startN (y:Nat):Nat:=365 * (y-1)+(y-1) / 4-(y-1) / 100+(y-1) / 400
def lenN (y:Nat):Nat:=if leapN y=true then 366 else 365
theorem start_1:startN 1=0:=rfl
theorem start_s {y:Nat} (h:1≤y):startN (y+1)=startN y+lenN y:=by
 obtain ⟨n,rfl⟩:∃ n,y=n+1:=⟨y-1,by omega⟩
 unfold startN lenN leapN
 simp only [Nat.add_sub_cancel]
 by_cases h1:(n+1) % 4=0
 ·by_cases h2:(n+1) % 100=0
  ·by_cases h3:(n+1) % 400=0
   ·rw [if_pos (by simp [h1,h3])];omega
   ·rw [if_neg (by simp [h2,h3])];omega
  ·rw [if_pos (by simp [h1,h2])];omega
 ·rw [if_neg (by simp [h1])];omega
theorem start_mono {y z:Nat} (h1:1≤y) (h:y≤z):startN y≤startN z:=by
 induction z with
 | zero=>omega
 | succ z ih =>
   rcases Nat.lt_or_ge z y with h2 | h2
   ·obtain rfl:y=z+1:=by omega
    exact Nat.le_refl _
   ·rw [start_s (by omega)]
    have:=ih h2
    omega
theorem start_big {y:Nat} (h:1≤y):startN y≤366 * (y-1):=by
 unfold startN
 omega
theorem preM_mono {y m k:Nat} (h:m≤k):preM y m≤preM y k:=by
 induction k with
 | zero=>obtain rfl:m=0:=by omega
         exact Nat.le_refl _
 | succ k ih =>
   rcases Nat.lt_or_ge k m with h2 | h2
   ·obtain rfl:m=k+1:=by omega
    exact Nat.le_refl _
   ·have h3:=ih h2
    have h4:preM y k≤preM y (k+1):=by
     cases k with
     | zero=>exact Nat.le_refl _
     | succ k=>show preM y (k+1)≤preM y (k+1)+monN y (k+1);omega
    omega
theorem preM_13 (y:Nat):preM y 13=lenN y:=by
 unfold lenN
 cases h:leapN y<;>simp [preM,monN,h]
theorem monN_pos (y m:Nat):28≤monN y m∧monN y m≤31:=by
 unfold monN
 repeat' split
 all_goals omega
theorem count_below (p:Nat):∀ n:Nat,(List.range n).countP (fun k=>decide (k<p))=min n p
 | 0=>by simp
 | n+1=>by
   rw [List.range_succ,List.countP_append,count_below p n,List.countP_singleton]
   by_cases h:n<p
   ·rw [if_pos (by simpa using h)];omega
   ·rw [if_neg (by simpa using h)];omega
def yearF (n:Nat):Nat:=(List.range 9998).countP (fun k=>decide (startN (k+2)≤n))+1
def monF (y r:Nat):Nat:=(List.range 11).countP (fun k=>decide (preM y (k+2)≤r))+1
theorem yearF_eq {n y:Nat} (h1:1≤y) (h2:y≤9999) (h3:startN y≤n) (h4:n<startN (y+1)):yearF n=y:=by
 unfold yearF
 have e:(List.range 9998).countP (fun k=>decide (startN (k+2)≤n))=(List.range 9998).countP (fun k=>decide (k<y-1)):=by
  apply List.countP_congr
  intro k _
  rw [decide_eq_true_eq,decide_eq_true_eq]
  constructor
  ·intro h
   by_cases c:k<y-1
   ·exact c
   ·have:=start_mono (y:=y+1) (z:=k+2) (by omega) (by omega)
    omega
  ·intro h
   have:=start_mono (y:=k+2) (z:=y) (by omega) (by omega)
   omega
 rw [e,count_below]
 omega
theorem monF_eq {y r m:Nat} (h1:1≤m) (h2:m≤12) (h3:preM y m≤r) (h4:m=12∨r<preM y (m+1)):monF y r=m:=by
 unfold monF
 have e:(List.range 11).countP (fun k=>decide (preM y (k+2)≤r))=(List.range 11).countP (fun k=>decide (k<m-1)):=by
  apply List.countP_congr
  intro k hk
  rw [List.mem_range] at hk
  rw [decide_eq_true_eq,decide_eq_true_eq]
  constructor
  ·intro h
   by_cases c:k<m-1
   ·exact c
   ·have:=preM_mono (y:=y) (m:=m+1) (k:=k+2) (by omega)
    omega
  ·intro h
   have:=preM_mono (y:=y) (m:=k+2) (k:=m) (by omega)
   omega
 rw [e,count_below]
 omega
def dayF (n:Nat):Nat:=n-startN (yearF n)-preM (yearF n) (monF (yearF n) (n-startN (yearF n)))+1
theorem date_eq {n y m r:Nat} (h1:1≤y) (h2:y≤9999) (h3:startN y≤n) (h4:n<startN (y+1)) (m1:1≤m) (m2:m≤12) (hr:n=startN y+preM y m+r) (h5:r<monN y m) :
 yearF n=y∧monF (yearF n) (n-startN (yearF n))=m∧dayF n=r+1:=by
 have e1:=yearF_eq h1 h2 h3 h4
 have hm:preM y (m+1)=preM y m+monN y m:=by
  obtain ⟨k,rfl⟩:∃ k,m=k+1:=⟨m-1,by omega⟩
  rfl
 have e2:monF y (n-startN y)=m:=monF_eq m1 m2 (by omega) (by omega)
 refine ⟨e1,by rw [e1];exact e2,?_⟩
 unfold dayF
 rw [e1,e2]
 omega
def padT:Nat→Nat→List Int
 | _,0=>[]
 | n,w+1=>padT (n / 10) w++[((48+n % 10:Nat):Int)]
theorem padT_len:∀ (w n:Nat),(padT n w).length=w
 | 0,_=>rfl
 | w+1,n=>by rw [padT,List.length_append,padT_len w];rfl
theorem padT_dig:∀ (w n:Nat),∀ c∈padT n w,48≤c∧c≤57
 | 0,_,c,h=>by cases h
 | w+1,n,c,h=>by
   rw [padT] at h
   rcases List.mem_append.1 h with h | h
   ·exact padT_dig w _ c h
   ·rw [List.mem_singleton] at h
    omega
theorem padT_ahead:∀ (w n:Nat),padT n (w+1)=((48+n / 10 ^ w % 10:Nat):Int)::padT n w
 | 0,n=>by simp [padT]
 | w+1,n=>by
   have h1:padT n (w+1+1)=padT (n / 10) (w+1)++[((48+n % 10:Nat):Int)]:=rfl
   have h2:padT n (w+1)=padT (n / 10) w++[((48+n % 10:Nat):Int)]:=rfl
   rw [h1,padT_ahead w (n / 10),h2,List.cons_append,Nat.div_div_eq_div_mul,← Nat.pow_succ']
def cutZ (l:List Int):List Int:=(l.reverse.dropWhile (·==48)).reverse
theorem cutZ_nought (l:List Int):cutZ (l++[48])=cutZ l:=by
 unfold cutZ
 rw [List.reverse_append]
 rfl
theorem cutZ_other {l:List Int} {c:Int} (h:c≠48):cutZ (l++[c])=l++[c]:=by
 unfold cutZ
 rw [List.reverse_append]
 show ((c::l.reverse).dropWhile _).reverse=_
 rw [List.dropWhile_cons,if_neg (by simpa using h),List.reverse_cons,List.reverse_reverse]
end Go.Proofs.YtniljgkkcnekgaaGreatDoor

/- What lies in memory where a tree lies: each cell by its place. -/
namespace Go.Proofs.YtniljgkkcnekgaaGreatDoor
open Go.RowKit Go.Deep
def ExprD.row (e:ExprD) (ya la va aa fa:Option Addr) (yc lc vc ac fc:Nat):List Value :=
 [.int .i64 e.op,.string e.name,.int .i64 e.val.kind,.bool e.val.bool,.bool e.val.num.neg,.string e.val.num.digits,.int .i64 e.val.num.exp,.int .i64 e.val.time.kind,.int .i64 e.val.time.day,.int .i64 e.val.time.nano,.int .i64 e.val.time.offset,
  .string e.val.text,.slice ya e.val.bytes.length yc,.slice la e.val.list.length lc,.slice va e.val.fields.length vc,.slice aa e.args.length ac,.slice fa e.funcs.length fc]
def ValD.row (v:ValD) (ya la va:Option Addr) (yc lc vc:Nat):List Value :=
 [.int .i64 v.kind,.bool v.bool,.bool v.num.neg,.string v.num.digits,.int .i64 v.num.exp,.int .i64 v.time.kind,.int .i64 v.time.day,.int .i64 v.time.nano,.int .i64 v.time.offset,
  .string v.text,.slice ya v.bytes.length yc,.slice la v.list.length lc,.slice va v.fields.length vc]
theorem ValD.At.row {w:World} {B N:Nat} {v:ValD} {cs:List Value} (h:ValD.At w B N v cs) :
 ∃ ya la va yc lc vc,cs=v.row ya la va yc lc vc∧v.Own N∧BytesAt w B v.bytes ya∧ValsAt w B N v.list la∧FieldsAt w B N v.fields va:=by
 obtain ⟨k,b,n,t,x,y,l,f⟩:=v
 obtain ⟨ya,la,fa,yc,lc,fc,h1,h2,h3,h4,h5⟩:=h
 exact ⟨ya,la,fa,yc,lc,fc,h1,h2,h3,h4,h5⟩
theorem ValD.At.mk {w:World} {B N:Nat} {v:ValD} {ya la va:Option Addr} {yc lc vc:Nat} (h2:v.Own N) (h3:BytesAt w B v.bytes ya) (h4:ValsAt w B N v.list la) (h5:FieldsAt w B N v.fields va):ValD.At w B N v (v.row ya la va yc lc vc):=by
 obtain ⟨k,b,n,t,x,y,l,f⟩:=v
 exact ⟨ya,la,va,yc,lc,vc,rfl,h2,h3,h4,h5⟩
theorem ExprD.At.rowc {w:World} {B N:Nat} {e:ExprD} {cs:List Value} (h:ExprD.At w B N e cs) :
 ∃ ya la va aa fa yc lc vc ac fc,cs=e.row ya la va aa fa yc lc vc ac fc∧e.Own N∧e.val.Own N∧BytesAt w B e.val.bytes ya∧ValsAt w B N e.val.list la∧FieldsAt w B N e.val.fields va∧ExprsAt w B N e.args aa∧FuncsAt w B N e.funcs fa∧e.args.length≤ac:=by
 obtain ⟨op,nm,v,as,fs⟩:=e
 obtain ⟨vs,aa,fa,ac,fc,h1,h2,h3,h4,h5⟩:=h
 obtain ⟨ya,la,va,yc,lc,vc,rfl,k2,k3,k4,k5⟩:=h3.row
 exact ⟨ya,la,va,aa,fa,yc,lc,vc,ac,fc,h1,h2,k2,k3,k4,k5,h4,h5⟩
theorem ExprD.At.row {w:World} {B N:Nat} {e:ExprD} {cs:List Value} (h:ExprD.At w B N e cs) :
 ∃ ya la va aa fa yc lc vc ac fc,cs=e.row ya la va aa fa yc lc vc ac fc∧e.Own N∧e.val.Own N∧BytesAt w B e.val.bytes ya∧ValsAt w B N e.val.list la∧FieldsAt w B N e.val.fields va∧ExprsAt w B N e.args aa∧FuncsAt w B N e.funcs fa:=by
 obtain ⟨ya,la,va,aa,fa,yc,lc,vc,ac,fc,h0,h1,h2,h3,h4,h5,h6,h7,_⟩:=h.rowc
 exact ⟨ya,la,va,aa,fa,yc,lc,vc,ac,fc,h0,h1,h2,h3,h4,h5,h6,h7⟩
theorem ExprD.At.mk {w:World} {B N:Nat} {e:ExprD} {ya la va aa fa:Option Addr} {yc lc vc ac fc:Nat} (h1:e.Own N) (h2:e.val.Own N) (h3:BytesAt w B e.val.bytes ya) (h4:ValsAt w B N e.val.list la) (h5:FieldsAt w B N e.val.fields va)
 (h6:ExprsAt w B N e.args aa) (h7:FuncsAt w B N e.funcs fa) (h8:e.args.length≤ac):ExprD.At w B N e (e.row ya la va aa fa yc lc vc ac fc):=by
 obtain ⟨op,nm,v,as,fs⟩:=e
 exact ⟨v.row ya la va yc lc vc,aa,fa,ac,fc,rfl,h1,ValD.At.mk h2 h3 h4 h5,h6,h7,h8⟩
theorem ExprsAt.get {w:World} {B N:Nat}:∀ {l:List ExprD} {a:Option Addr},ExprsAt w B N l a→l≠[]→∃ b o,a=some ⟨b,o,none⟩∧b<B∧∀ i (hi:i<l.length),∃ cs,CellsAt w b (o+i * 17) cs∧ExprD.At w B N l[i] cs
 | [],_,_,h=>absurd rfl h
 | e::r,_,⟨⟨b,o,cs,h1,h2,h3,h4⟩,h5⟩,_=>by
   subst h1
   refine ⟨b,o,rfl,h2,fun i hi=>?_⟩
   match i with
   | 0=>exact ⟨cs,by simpa using h3,h4⟩
   | i+1 =>
     have hr:r≠[]:=by rintro rfl;simp at hi
     obtain ⟨b',o',e1,_,h6⟩:=ExprsAt.get h5 hr
     simp at e1
     obtain ⟨rfl,rfl⟩:=e1
     obtain ⟨cs,h7,h8⟩:=h6 i (by simpa using hi)
     exact ⟨cs,by rw [show o+(i+1) * 17=o+17+i * 17 by omega];exact h7,h8⟩
theorem ValsAt.get {w:World} {B N:Nat}:∀ {l:List ValD} {a:Option Addr},ValsAt w B N l a→l≠[]→∃ b o,a=some ⟨b,o,none⟩∧b<B∧∀ i (hi:i<l.length),∃ cs,CellsAt w b (o+i * 13) cs∧ValD.At w B N l[i] cs
 | [],_,_,h=>absurd rfl h
 | e::r,_,⟨⟨b,o,cs,h1,h2,h3,h4⟩,h5⟩,_=>by
   subst h1
   refine ⟨b,o,rfl,h2,fun i hi=>?_⟩
   match i with
   | 0=>exact ⟨cs,by simpa using h3,h4⟩
   | i+1 =>
     have hr:r≠[]:=by rintro rfl;simp at hi
     obtain ⟨b',o',e1,_,h6⟩:=ValsAt.get h5 hr
     simp at e1
     obtain ⟨rfl,rfl⟩:=e1
     obtain ⟨cs,h7,h8⟩:=h6 i (by simpa using hi)
     exact ⟨cs,by rw [show o+(i+1) * 13=o+13+i * 13 by omega];exact h7,h8⟩
theorem FieldsAt.get {w:World} {B N:Nat}:∀ {l:List (ByteArray×ValD)} {a:Option Addr},FieldsAt w B N l a→l≠[]→∃ b o,a=some ⟨b,o,none⟩∧b<B∧∀ i (hi:i<l.length),∃ cs,l[i].1.size≤N∧CellsAt w b (o+i * 14) (.string l[i].1::cs)∧ValD.At w B N l[i].2 cs
 | [],_,_,h=>absurd rfl h
 | (k,v)::r,_,⟨⟨b,o,cs,h1,h2,h0,h3,h4⟩,h5⟩,_=>by
   subst h1
   refine ⟨b,o,rfl,h2,fun i hi=>?_⟩
   match i with
   | 0=>exact ⟨cs,h0,by simpa using h3,h4⟩
   | i+1 =>
     have hr:r≠[]:=by rintro rfl;simp at hi
     obtain ⟨b',o',e1,_,h6⟩:=FieldsAt.get h5 hr
     simp at e1
     obtain ⟨rfl,rfl⟩:=e1
     obtain ⟨cs,h9,h7,h8⟩:=h6 i (by simpa using hi)
     exact ⟨cs,h9,by rw [show o+(i+1) * 14=o+14+i * 14 by omega];exact h7,h8⟩
theorem FuncsAt.get {w:World} {B N:Nat}:∀ {l:List FuncD} {a:Option Addr},FuncsAt w B N l a→l≠[]→∃ b o,a=some ⟨b,o,none⟩∧b<B∧∀ i (hi:i<l.length),∃ cs,CellsAt w b (o+i * 19) cs∧FuncD.At w B N l[i] cs
 | [],_,_,h=>absurd rfl h
 | e::r,_,⟨⟨b,o,cs,h1,h2,h3,h4⟩,h5⟩,_=>by
   subst h1
   refine ⟨b,o,rfl,h2,fun i hi=>?_⟩
   match i with
   | 0=>exact ⟨cs,by simpa using h3,h4⟩
   | i+1 =>
     have hr:r≠[]:=by rintro rfl;simp at hi
     obtain ⟨b',o',e1,_,h6⟩:=FuncsAt.get h5 hr
     simp at e1
     obtain ⟨rfl,rfl⟩:=e1
     obtain ⟨cs,h7,h8⟩:=h6 i (by simpa using hi)
     exact ⟨cs,by rw [show o+(i+1) * 19=o+19+i * 19 by omega];exact h7,h8⟩
theorem ParamsAt.get {w:World} {B N:Nat}:∀ {l:List ParD} {a:Option Addr},ParamsAt w B N l a→l≠[]→∃ b o,a=some ⟨b,o,none⟩∧b<B∧∀ i (hi:i<l.length),l[i].name.size≤N∧CellsAt w b (o+i * 2) l[i].cells
 | [],_,_,h=>absurd rfl h
 | e::r,_,⟨b,o,h1,h2,h3,h4,h5⟩,_=>by
   subst h1
   refine ⟨b,o,rfl,h2,fun i hi=>?_⟩
   match i with
   | 0=>exact ⟨h3,by simpa using h4⟩
   | i+1 =>
     have hr:r≠[]:=by rintro rfl;simp at hi
     obtain ⟨b',o',e1,_,h6⟩:=ParamsAt.get h5 hr
     simp at e1
     obtain ⟨rfl,rfl⟩:=e1
     obtain ⟨h7,h8⟩:=h6 i (by simpa using hi)
     exact ⟨h7,by rw [show o+(i+1) * 2=o+2+i * 2 by omega];exact h8⟩
theorem ValsAt_of' {w:World} {B N b:Nat} (hb:b<B):∀ (l:List ValD) (o:Nat),(∀ i (hi:i<l.length),∃ cs,CellsAt w b (o+i * 13) cs∧ValD.At w B N l[i] cs)→ValsAt w B N l (some ⟨b,o,none⟩)
 | [],_,_=>trivial
 | v::r,o,h=>by
   obtain ⟨cs,h1,h2⟩:=h 0 (by simp)
   refine ⟨⟨b,o,cs,rfl,hb,by simpa using h1,h2⟩,ValsAt_of' hb r (o+13) fun i hi=>?_⟩
   obtain ⟨cs,h1,h2⟩:=h (i+1) (by simpa using hi)
   exact ⟨cs,by rw [show o+13+i * 13=o+(i+1) * 13 by omega];exact h1,h2⟩
theorem CellsAt.val {w:World} {b o:Nat} {v:ValD} {ya la va:Option Addr} {yc lc vc:Nat} (h:CellsAt w b o (v.row ya la va yc lc vc)) :
 w.cell? ⟨b,o,none⟩=some (.int .i64 v.kind)∧w.cell? ⟨b,o+1,none⟩=some (.bool v.bool) ∧
 w.cell? ⟨b,o+2,none⟩=some (.bool v.num.neg)∧w.cell? ⟨b,o+3,none⟩=some (.string v.num.digits)∧w.cell? ⟨b,o+4,none⟩=some (.int .i64 v.num.exp) ∧
 w.cell? ⟨b,o+5,none⟩=some (.int .i64 v.time.kind)∧w.cell? ⟨b,o+6,none⟩=some (.int .i64 v.time.day)∧w.cell? ⟨b,o+7,none⟩=some (.int .i64 v.time.nano)∧w.cell? ⟨b,o+8,none⟩=some (.int .i64 v.time.offset) ∧
 w.cell? ⟨b,o+9,none⟩=some (.string v.text)∧w.cell? ⟨b,o+10,none⟩=some (.slice ya v.bytes.length yc)∧w.cell? ⟨b,o+11,none⟩=some (.slice la v.list.length lc)∧w.cell? ⟨b,o+12,none⟩=some (.slice va v.fields.length vc):=by
 have hl:(v.row ya la va yc lc vc).length=13:=rfl
 exact ⟨h 0 (by omega),h 1 (by omega),h 2 (by omega),h 3 (by omega),h 4 (by omega),h 5 (by omega),h 6 (by omega),h 7 (by omega),h 8 (by omega),h 9 (by omega),h 10 (by omega),h 11 (by omega),h 12 (by omega)⟩
theorem CellsAt.tail {w:World} {b o:Nat} {c:Value} {cs:List Value} (h:CellsAt w b o (c::cs)):CellsAt w b (o+1) cs:=fun j hj=>by
 have:=h (j+1) (by simpa using hj)
 rw [show o+1+j=o+(j+1) by omega]
 simpa using this
theorem CellsAt.range {w:World} {b o:Nat} {cs:List Value} (h:CellsAt w b o cs):w.rangeAt b o cs:=fun j v hv=>by
 have hj:j<cs.length:=(List.getElem?_eq_some_iff.1 hv).1
 rw [h j hj,hv]
theorem CellsAt.get0' {w:World} {b o:Nat} {cs:List Value} (h:CellsAt w b o cs) {v:Value} (hv:cs[0]?=some v):w.cell? ⟨b,o,none⟩=some v:=by
 have:=h 0 (List.getElem?_eq_some_iff.1 hv).1
 rw [Nat.add_zero] at this
 rw [this,hv]
theorem ValD.At.len {w:World} {B N:Nat} {v:ValD} {cs:List Value} (h:ValD.At w B N v cs):cs.length=13:=by
 obtain ⟨ya,la,va,yc,lc,vc,rfl,_⟩:=h.row
 rfl
theorem ExprD.At.len {w:World} {B N:Nat} {e:ExprD} {cs:List Value} (h:ExprD.At w B N e cs):cs.length=17:=by
 obtain ⟨ya,la,va,aa,fa,yc,lc,vc,ac,fc,rfl,_⟩:=h.row
 rfl
theorem FuncD.At.len {w:World} {B N:Nat} {f:FuncD} {cs:List Value} (h:FuncD.At w B N f cs):cs.length=19:=by
 obtain ⟨nm,ps,e⟩:=f
 obtain ⟨pa,pc,es,rfl,_,_,_,h⟩:=h
 simp [h.len]
structure ExprD.Has (w:World) (B N:Nat) (e:ExprD) (cs:List Value) (aa fa:Option Addr) (ac fc:Nat) (vs:List Value):Prop where
 len:cs.length=17
 op:cs[0]?=some (.int .i64 e.op)
 name:cs[1]?=some (.string e.name)
 args:cs[15]?=some (.slice aa e.args.length ac)
 funcs:cs[16]?=some (.slice fa e.funcs.length fc)
 val:(cs.drop 2).take 13=vs
 own:e.Own N
 atVal:ValD.At w B N e.val vs
 atArgs:ExprsAt w B N e.args aa
 atFuncs:FuncsAt w B N e.funcs fa
 cap:e.args.length≤ac
theorem ExprD.At.has {w:World} {B N:Nat} {e:ExprD} {cs:List Value} (h:ExprD.At w B N e cs):∃ aa fa ac fc vs,ExprD.Has w B N e cs aa fa ac fc vs:=by
 obtain ⟨ya,la,va,aa,fa,yc,lc,vc,ac,fc,rfl,h1,h2,h3,h4,h5,h6,h7,h8⟩:=h.rowc
 exact ⟨aa,fa,ac,fc,e.val.row ya la va yc lc vc,⟨rfl,rfl,rfl,rfl,rfl,rfl,h1,ValD.At.mk h2 h3 h4 h5,h6,h7,h8⟩⟩
structure ValD.Has (w:World) (B N:Nat) (v:ValD) (cs:List Value) (ya la va:Option Addr) (yc lc vc:Nat):Prop where
 len:cs.length=13
 kind:cs[0]?=some (.int .i64 v.kind)
 bool:cs[1]?=some (.bool v.bool)
 neg:cs[2]?=some (.bool v.num.neg)
 digits:cs[3]?=some (.string v.num.digits)
 exp:cs[4]?=some (.int .i64 v.num.exp)
 tkind:cs[5]?=some (.int .i64 v.time.kind)
 day:cs[6]?=some (.int .i64 v.time.day)
 nano:cs[7]?=some (.int .i64 v.time.nano)
 offset:cs[8]?=some (.int .i64 v.time.offset)
 text:cs[9]?=some (.string v.text)
 bytes:cs[10]?=some (.slice ya v.bytes.length yc)
 list:cs[11]?=some (.slice la v.list.length lc)
 fields:cs[12]?=some (.slice va v.fields.length vc)
 own:v.Own N
 atBytes:BytesAt w B v.bytes ya
 atList:ValsAt w B N v.list la
 atFields:FieldsAt w B N v.fields va
theorem ValD.At.has {w:World} {B N:Nat} {v:ValD} {cs:List Value} (h:ValD.At w B N v cs):∃ ya la va yc lc vc,ValD.Has w B N v cs ya la va yc lc vc:=by
 obtain ⟨ya,la,va,yc,lc,vc,rfl,h2,h3,h4,h5⟩:=h.row
 exact ⟨ya,la,va,yc,lc,vc,⟨rfl,rfl,rfl,rfl,rfl,rfl,rfl,rfl,rfl,rfl,rfl,rfl,rfl,rfl,h2,h3,h4,h5⟩⟩
end Go.Proofs.YtniljgkkcnekgaaGreatDoor

/- Base64 as a plain function (layer 6). No program here. -/
namespace Go.Proofs.YtniljgkkcnekgaaGreatDoor
open Go.RowKit
def b64L:List Int:=[65,66,67,68,69,70,71,72,73,74,75,76,77,78,79,80,81,82,83,84,85,86,87,88,89,90,97,98,99,100,101,102,103,104,105,106,107,108,109,110,111,112,113,114,115,116,117,118,119,120,121,122,48,49,50,51,52,53,54,55,56,57,43,47]
def b64D (n:Nat):Int:=b64L.getD n 0
def byN (l:List Int) (i:Nat):Nat:=(l.getD i 0).toNat
def wordN (l:List Int) (j:Nat):Nat:=(byN l (3 * j) * 256+byN l (3 * j+1)) * 256+byN l (3 * j+2)
def dg6N (l:List Int) (m:Nat):Nat:=wordN l (m / 4) / 2 ^ (18-6 * (m % 4)) % 64
def cntN (n:Nat):Nat:=(8 * n+5) / 6
def chrN (l:List Int) (m:Nat):Int:=if m<cntN l.length then b64D (dg6N l m) else 61
def b64T (l:List Int) (t:Nat):List Int:=(List.range t).map (chrN l)
def b64S (l:List Int):List Int:=b64T l (4 * ((l.length+2) / 3))
theorem b64T_s (l:List Int) (t:Nat):b64T l (t+1)=b64T l t++[chrN l t]:=by unfold b64T;rw [List.range_succ,List.map_append];rfl
theorem b64T_len (l:List Int) (t:Nat):(b64T l t).length=t:=by unfold b64T;rw [List.length_map,List.length_range]
def bitN (l:List Int) (k:Nat):Nat:=byN l (k / 8) / 2 ^ (7-k % 8) % 2
def sixN (l:List Int) (m:Nat):Nat→Nat
 | 0=>0
 | q+1=>sixN l m q * 2+bitN l (6 * m+q)
theorem byN_lt {l:List Int} (h:∀ c∈l,0≤c∧c≤255) (i:Nat):byN l i<256:=by
 unfold byN
 by_cases hi:i<l.length
 ·have:=h _ (List.getElem_mem hi)
  rw [List.getD_eq_getElem?_getD,List.getElem?_eq_getElem hi,Option.getD_some]
  omega
 ·rw [List.getD_eq_getElem?_getD,List.getElem?_eq_none (by omega)]
  show (0:Int).toNat<256
  decide
theorem bitN_lt (l:List Int) (k:Nat):bitN l k<2:=Nat.mod_lt _ (by decide)
theorem sixN_lt (l:List Int) (m:Nat):∀ q,sixN l m q<2 ^ q
 | 0=>Nat.one_pos
 | q+1=>by
   have h1:=sixN_lt l m q
   have h2:=bitN_lt l (6 * m+q)
   rw [sixN,Nat.pow_succ]
   omega
theorem dg6N_lt (l:List Int) (m:Nat):dg6N l m<64:=Nat.mod_lt _ (by decide)
theorem byte_bits (a:Nat) (h:a<256):∃ x7 x6 x5 x4 x3 x2 x1 x0:Nat,x7<2∧x6<2∧x5<2∧x4<2∧x3<2∧x2<2∧x1<2∧x0<2 ∧
 a=128 * x7+64 * x6+32 * x5+16 * x4+8 * x3+4 * x2+2 * x1+x0∧a / 2 ^ 7 % 2=x7∧a / 2 ^ 6 % 2=x6∧a / 2 ^ 5 % 2=x5∧a / 2 ^ 4 % 2=x4∧a / 2 ^ 3 % 2=x3∧a / 2 ^ 2 % 2=x2∧a / 2 ^ 1 % 2=x1∧a / 2 ^ 0 % 2=x0:=by
 refine ⟨a / 2 ^ 7 % 2,a / 2 ^ 6 % 2,a / 2 ^ 5 % 2,a / 2 ^ 4 % 2,a / 2 ^ 3 % 2,a / 2 ^ 2 % 2,a / 2 ^ 1 % 2,a / 2 ^ 0 % 2,?_,?_,?_,?_,?_,?_,?_,?_,?_,rfl,rfl,rfl,rfl,rfl,rfl,rfl,rfl⟩
 all_goals first | exact Nat.mod_lt _ (by decide) | (simp only [Nat.reducePow];omega)
theorem bit_at (l:List Int) (k i s:Nat) (hk:k=8 * i+s) (hs:s<8):bitN l k=byN l i / 2 ^ (7-s) % 2:=by
 unfold bitN
 rw [show k / 8=i by omega,show k % 8=s by omega]
theorem pick (W P D K R:Nat) (hW:W=(P * 64+D) * K+R) (hD:D<64) (hR:R<K):W / K % 64=D:=by
 subst hW
 have hK:0<K:=by omega
 rw [Nat.mul_comm,Nat.mul_add_div hK,Nat.div_eq_of_lt hR,Nat.add_zero]
 omega
theorem six_dig {l:List Int} (h:∀ c∈l,0≤c∧c≤255) (m:Nat):sixN l m 6=dg6N l m:=by
 obtain ⟨j,r,hr,rfl⟩:∃ j r,r<4∧m=4 * j+r:=⟨m / 4,m % 4,by omega,by omega⟩
 have e0:(4 * j+r) / 4=j:=by omega
 have e1:(4 * j+r) % 4=r:=by omega
 unfold dg6N wordN
 rw [e0,e1]
 obtain ⟨a7,a6,a5,a4,a3,a2,a1,a0,A7,A6,A5,A4,A3,A2,A1,A0,ha,b7,b6,b5,b4,b3,b2,b1,b0⟩:=byte_bits _ (byN_lt h (3 * j))
 obtain ⟨c7,c6,c5,c4,c3,c2,c1,c0,C7,C6,C5,C4,C3,C2,C1,C0,hc,d7,d6,d5,d4,d3,d2,d1,d0⟩:=byte_bits _ (byN_lt h (3 * j+1))
 obtain ⟨e7,e6,e5,e4,e3,e2,e1',e0',E7,E6,E5,E4,E3,E2,E1,E0,he,f7,f6,f5,f4,f3,f2,f1,f0⟩:=byte_bits _ (byN_lt h (3 * j+2))
 simp only [sixN]
 rcases (show r=0∨r=1∨r=2∨r=3 by omega) with rfl | rfl | rfl | rfl
 ·rw [bit_at l _ (3 * j) 0 (show 6 * (4 * j+0)+0=_ by omega) (by omega),bit_at l _ (3 * j) 1 (show 6 * (4 * j+0)+1=_ by omega) (by omega),bit_at l _ (3 * j) 2 (show 6 * (4 * j+0)+2=_ by omega) (by omega),bit_at l _ (3 * j) 3 (show 6 * (4 * j+0)+3=_ by omega) (by omega),bit_at l _ (3 * j) 4 (show 6 * (4 * j+0)+4=_ by omega) (by omega),bit_at l _ (3 * j) 5 (show 6 * (4 * j+0)+5=_ by omega) (by omega)]
  simp only [Nat.reduceSub,b7,b6,b5,b4,b3,b2]
  clear b7 b6 b5 b4 b3 b2 b1 b0 d7 d6 d5 d4 d3 d2 d1 d0 f7 f6 f5 f4 f3 f2 f1 f0
  rw [ha,hc,he]
  clear ha hc he
  refine Eq.trans ?_ (pick _ (0) (32 * a7+16 * a6+8 * a5+4 * a4+2 * a3+a2) 262144 (131072 * a1+65536 * a0+32768 * c7+16384 * c6+8192 * c5+4096 * c4+2048 * c3+1024 * c2+512 * c1+256 * c0+128 * e7+64 * e6+32 * e5+16 * e4+8 * e3+4 * e2+2 * e1'+e0') (by omega) (by omega) (by omega)).symm
  omega
 ·rw [bit_at l _ (3 * j) 6 (show 6 * (4 * j+1)+0=_ by omega) (by omega),bit_at l _ (3 * j) 7 (show 6 * (4 * j+1)+1=_ by omega) (by omega),bit_at l _ (3 * j+1) 0 (show 6 * (4 * j+1)+2=_ by omega) (by omega),bit_at l _ (3 * j+1) 1 (show 6 * (4 * j+1)+3=_ by omega) (by omega),bit_at l _ (3 * j+1) 2 (show 6 * (4 * j+1)+4=_ by omega) (by omega),bit_at l _ (3 * j+1) 3 (show 6 * (4 * j+1)+5=_ by omega) (by omega)]
  simp only [Nat.reduceSub,b1,b0,d7,d6,d5,d4]
  clear b7 b6 b5 b4 b3 b2 b1 b0 d7 d6 d5 d4 d3 d2 d1 d0 f7 f6 f5 f4 f3 f2 f1 f0
  rw [ha,hc,he]
  clear ha hc he
  refine Eq.trans ?_ (pick _ (32 * a7+16 * a6+8 * a5+4 * a4+2 * a3+a2) (32 * a1+16 * a0+8 * c7+4 * c6+2 * c5+c4) 4096 (2048 * c3+1024 * c2+512 * c1+256 * c0+128 * e7+64 * e6+32 * e5+16 * e4+8 * e3+4 * e2+2 * e1'+e0') (by omega) (by omega) (by omega)).symm
  omega
 ·rw [bit_at l _ (3 * j+1) 4 (show 6 * (4 * j+2)+0=_ by omega) (by omega),bit_at l _ (3 * j+1) 5 (show 6 * (4 * j+2)+1=_ by omega) (by omega),bit_at l _ (3 * j+1) 6 (show 6 * (4 * j+2)+2=_ by omega) (by omega),bit_at l _ (3 * j+1) 7 (show 6 * (4 * j+2)+3=_ by omega) (by omega),bit_at l _ (3 * j+2) 0 (show 6 * (4 * j+2)+4=_ by omega) (by omega),bit_at l _ (3 * j+2) 1 (show 6 * (4 * j+2)+5=_ by omega) (by omega)]
  simp only [Nat.reduceSub,d3,d2,d1,d0,f7,f6]
  clear b7 b6 b5 b4 b3 b2 b1 b0 d7 d6 d5 d4 d3 d2 d1 d0 f7 f6 f5 f4 f3 f2 f1 f0
  rw [ha,hc,he]
  clear ha hc he
  refine Eq.trans ?_ (pick _ (2048 * a7+1024 * a6+512 * a5+256 * a4+128 * a3+64 * a2+32 * a1+16 * a0+8 * c7+4 * c6+2 * c5+c4) (32 * c3+16 * c2+8 * c1+4 * c0+2 * e7+e6) 64 (32 * e5+16 * e4+8 * e3+4 * e2+2 * e1'+e0') (by omega) (by omega) (by omega)).symm
  omega
 ·rw [bit_at l _ (3 * j+2) 2 (show 6 * (4 * j+3)+0=_ by omega) (by omega),bit_at l _ (3 * j+2) 3 (show 6 * (4 * j+3)+1=_ by omega) (by omega),bit_at l _ (3 * j+2) 4 (show 6 * (4 * j+3)+2=_ by omega) (by omega),bit_at l _ (3 * j+2) 5 (show 6 * (4 * j+3)+3=_ by omega) (by omega),bit_at l _ (3 * j+2) 6 (show 6 * (4 * j+3)+4=_ by omega) (by omega),bit_at l _ (3 * j+2) 7 (show 6 * (4 * j+3)+5=_ by omega) (by omega)]
  simp only [Nat.reduceSub,f5,f4,f3,f2,f1,f0]
  clear b7 b6 b5 b4 b3 b2 b1 b0 d7 d6 d5 d4 d3 d2 d1 d0 f7 f6 f5 f4 f3 f2 f1 f0
  rw [ha,hc,he]
  clear ha hc he
  refine Eq.trans ?_ (pick _ (131072 * a7+65536 * a6+32768 * a5+16384 * a4+8192 * a3+4096 * a2+2048 * a1+1024 * a0+512 * c7+256 * c6+128 * c5+64 * c4+32 * c3+16 * c2+8 * c1+4 * c0+2 * e7+e6) (32 * e5+16 * e4+8 * e3+4 * e2+2 * e1'+e0') 1 (0) (by omega) (by omega) (by omega)).symm
  omega
theorem bw_ofInt (a:Nat) (ha:a<18446744073709551616):(BitVec.ofInt 64 (a:Int)).toNat=a:=by
 rw [BitVec.ofInt_natCast,BitVec.toNat_ofNat];exact Nat.mod_eq_of_lt (by omega)
theorem bw_or_nat (a b:Nat) (ha:a<4611686018427387904) (hb:b<4611686018427387904):bits .or .i64 (a:Int) (b:Int)=((a ||| b:Nat):Int):=by
 have hx:a ||| b<2 ^ 62:=Nat.or_lt_two_pow (by omega) (by omega)
 show IntKind.i64.wrap ((BitVec.ofInt 64 (a:Int) ||| BitVec.ofInt 64 (b:Int)).toNat:Int)=_
 rw [BitVec.toNat_or,bw_ofInt a (by omega),bw_ofInt b (by omega),IntKind.wrap_i64]
 omega
theorem bw_and_nat (a b:Nat) (ha:a<4611686018427387904) (hb:b<4611686018427387904):bits .and .i64 (a:Int) (b:Int)=((a &&& b:Nat):Int):=by
 have hx:a &&& b<2 ^ 62:=Nat.and_lt_two_pow _ (by omega)
 show IntKind.i64.wrap ((BitVec.ofInt 64 (a:Int) &&& BitVec.ofInt 64 (b:Int)).toNat:Int)=_
 rw [BitVec.toNat_and,bw_ofInt a (by omega),bw_ofInt b (by omega),IntKind.wrap_i64]
 omega
theorem bw_or8 (a b:Nat) (ha:a<4611686018427387) (hb:b<256):bits .or .i64 ((a:Int) * 256) (b:Int)=((a * 256+b:Nat):Int):=by
 have:=bw_or_nat (a * 256) b (by omega) (by omega)
 rw [Nat.mul_comm,← Nat.two_pow_add_eq_or_of_lt (i:=8) hb] at this
 rw [show ((a:Int) * 256)=((2 ^ 8 * a:Nat):Int) by omega,this]
 congr 1
 omega
theorem bw_or1 (a b:Nat) (ha:a<4611686018427387) (hb:b<2):bits .or .i64 ((a:Int) * 2) (b:Int)=((a * 2+b:Nat):Int):=by
 have:=bw_or_nat (a * 2) b (by omega) (by omega)
 rw [Nat.mul_comm,← Nat.two_pow_add_eq_or_of_lt (i:=1) hb] at this
 rw [show ((a:Int) * 2)=((2 ^ 1 * a:Nat):Int) by omega,this]
 congr 1
 omega
theorem bw_and63 (a:Nat) (ha:a<4611686018427387904):bits .and .i64 (a:Int) 63=((a % 64:Nat):Int):=by
 have:=bw_and_nat a 63 ha (by omega)
 rw [show (63:Nat)=2 ^ 6-1 from rfl,Nat.and_two_pow_sub_one_eq_mod] at this
 exact this
theorem bw_and1 (a:Nat) (ha:a<4611686018427387904):bits .and .i64 (a:Int) 1=((a % 2:Nat):Int):=by
 have:=bw_and_nat a 1 ha (by omega)
 rw [show (1:Nat)=2 ^ 1-1 from rfl,Nat.and_two_pow_sub_one_eq_mod] at this
 exact this
end Go.Proofs.YtniljgkkcnekgaaGreatDoor
