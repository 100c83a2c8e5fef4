/- Values and expressions as trees, and what it means that cells in memory hold such a tree. -/
import Derived.Below
import Derived.Laws.AppendOwn
import Derived.Deep.Slices
import Derived.Deep.RegionHeld3
import Derived.Lib.Hide
import Derived.Deep.MidRow
namespace Go.Proofs.YtagkjofpncpcpaaGreatDoor
open Go.RowKit Go.Deep
structure DecD where
 neg:Bool
 digits:ByteArray
 exp:Int
structure TimeD where
 kind:Int
 day:Int
 nano:Int
 offset:Int
inductive ValD where
 | mk (kind:Int) (bool:Bool) (num:DecD) (time:TimeD) (text:ByteArray) (bytes:List Int) (list:List ValD) (fields:List (ByteArray×ValD))
instance:Inhabited DecD:=⟨⟨false,ByteArray.empty,0⟩⟩
instance:Inhabited TimeD:=⟨⟨0,0,0,0⟩⟩
instance:Inhabited ValD:=⟨.mk 0 false default default ByteArray.empty [] [] []⟩
structure ParD where
 name:ByteArray
 value:Bool
instance:Inhabited ParD:=⟨⟨ByteArray.empty,false⟩⟩
mutual
inductive ExprD where
 | mk (op:Int) (name:ByteArray) (val:ValD) (args:List ExprD) (funcs:List FuncD)
inductive FuncD where
 | mk (name:ByteArray) (params:List ParD) (body:ExprD)
end
instance:Inhabited ExprD:=⟨.mk 0 ByteArray.empty default [] []⟩
instance:Inhabited FuncD:=⟨.mk ByteArray.empty [] default⟩
def ValD.kind:ValD→Int | .mk k _ _ _ _ _ _ _=>k
def ValD.bool:ValD→Bool | .mk _ b _ _ _ _ _ _=>b
def ValD.num:ValD→DecD | .mk _ _ n _ _ _ _ _=>n
def ValD.time:ValD→TimeD | .mk _ _ _ t _ _ _ _=>t
def ValD.text:ValD→ByteArray | .mk _ _ _ _ x _ _ _=>x
def ValD.bytes:ValD→List Int | .mk _ _ _ _ _ y _ _=>y
def ValD.list:ValD→List ValD | .mk _ _ _ _ _ _ l _=>l
def ValD.fields:ValD→List (ByteArray×ValD) | .mk _ _ _ _ _ _ _ f=>f
def ExprD.op:ExprD→Int | .mk o _ _ _ _=>o
def ExprD.name:ExprD→ByteArray | .mk _ n _ _ _=>n
def ExprD.val:ExprD→ValD | .mk _ _ v _ _=>v
def ExprD.args:ExprD→List ExprD | .mk _ _ _ a _=>a
def ExprD.funcs:ExprD→List FuncD | .mk _ _ _ _ f=>f
def FuncD.name:FuncD→ByteArray | .mk n _ _=>n
def FuncD.params:FuncD→List ParD | .mk _ p _=>p
def FuncD.body:FuncD→ExprD | .mk _ _ e=>e
def I64 (n:Int):Prop:=-9223372036854775808≤n∧n≤9223372036854775807
def CellsAt (w:World) (b o:Nat) (cs:List Value):Prop:=∀ j,j<cs.length→w.cell? ⟨b,o+j,none⟩=cs[j]?
def BytesAt (w:World) (B:Nat) (l:List Int) (a:Option Addr):Prop :=
 l=[]∨∃ b o,a=some ⟨b,o,none⟩∧b<B∧CellsAt w b o (l.map (Value.int .u8))∧∀ x∈l,0≤x∧x≤255
def ParD.cells (p:ParD):List Value:=[.string p.name,.bool p.value]
def ParamsAt (w:World) (B N:Nat):List ParD→Option Addr→Prop
 | [],_=>True
 | p::r,a=>∃ b o,a=some ⟨b,o,none⟩∧b<B∧p.name.size≤N∧CellsAt w b o p.cells∧ParamsAt w B N r (some ⟨b,o+2,none⟩)
def ValD.cellsOf (v:ValD) (ya la fa:Option Addr) (yc lc fc:Nat):List Value :=
 [.int .i64 v.kind,.bool v.bool,.bool v.num.neg,.string v.num.digits,.int .i64 v.num.exp,.int .i64 v.time.kind,.int .i64 v.time.day,.int .i64 v.time.nano,.int .i64 v.time.offset,
  .string v.text,.slice ya v.bytes.length yc,.slice la v.list.length lc,.slice fa v.fields.length fc]
def ValD.Own (v:ValD) (N:Nat):Prop :=
 I64 v.kind∧I64 v.num.exp∧I64 v.time.kind∧I64 v.time.day∧I64 v.time.nano∧I64 v.time.offset∧v.num.digits.size≤N∧v.text.size≤N∧v.bytes.length≤N∧v.list.length≤N∧v.fields.length≤N
mutual
def ValD.At (w:World) (B N:Nat):ValD→List Value→Prop
 | .mk k b n t x y l f,cs=>∃ ya la fa yc lc fc,cs=ValD.cellsOf (.mk k b n t x y l f) ya la fa yc lc fc∧ValD.Own (.mk k b n t x y l f) N∧BytesAt w B y ya∧ValsAt w B N l la∧FieldsAt w B N f fa
def ValsAt (w:World) (B N:Nat):List ValD→Option Addr→Prop
 | [],_=>True
 | v::r,a=>(∃ b o cs,a=some ⟨b,o,none⟩∧b<B∧CellsAt w b o cs∧ValD.At w B N v cs)∧ValsAt w B N r (a.map fun a=>⟨a.block,a.off+13,none⟩)
def FieldsAt (w:World) (B N:Nat):List (ByteArray×ValD)→Option Addr→Prop
 | [],_=>True
 | (k,v)::r,a=>(∃ b o cs,a=some ⟨b,o,none⟩∧b<B∧k.size≤N∧CellsAt w b o (.string k::cs)∧ValD.At w B N v cs)∧FieldsAt w B N r (a.map fun a=>⟨a.block,a.off+14,none⟩)
end
def ExprD.cellsOf (e:ExprD) (vs:List Value) (aa fa:Option Addr) (ac fc:Nat):List Value :=
 .int .i64 e.op::.string e.name::(vs++[.slice aa e.args.length ac,.slice fa e.funcs.length fc])
def ExprD.Own (e:ExprD) (N:Nat):Prop:=I64 e.op∧e.name.size≤N∧e.args.length≤N∧e.funcs.length≤N
mutual
def ExprD.At (w:World) (B N:Nat):ExprD→List Value→Prop
 | .mk op nm v as fs,cs=>∃ vs aa fa ac fc,cs=ExprD.cellsOf (.mk op nm v as fs) vs aa fa ac fc∧ExprD.Own (.mk op nm v as fs) N∧ValD.At w B N v vs∧ExprsAt w B N as aa∧FuncsAt w B N fs fa∧as.length≤ac
def ExprsAt (w:World) (B N:Nat):List ExprD→Option Addr→Prop
 | [],_=>True
 | e::r,a=>(∃ b o cs,a=some ⟨b,o,none⟩∧b<B∧CellsAt w b o cs∧ExprD.At w B N e cs)∧ExprsAt w B N r (a.map fun a=>⟨a.block,a.off+17,none⟩)
def FuncD.At (w:World) (B N:Nat):FuncD→List Value→Prop
 | .mk nm ps e,cs=>∃ pa pc es,cs=.string nm::.slice pa ps.length pc::es∧nm.size≤N∧ps.length≤N∧ParamsAt w B N ps pa∧ExprD.At w B N e es
def FuncsAt (w:World) (B N:Nat):List FuncD→Option Addr→Prop
 | [],_=>True
 | f::r,a=>(∃ b o cs,a=some ⟨b,o,none⟩∧b<B∧CellsAt w b o cs∧FuncD.At w B N f cs)∧FuncsAt w B N r (a.map fun a=>⟨a.block,a.off+19,none⟩)
end
section
variable {w w':World} {B N:Nat}
theorem CellsAt.below {b o:Nat} {cs:List Value} (h:CellsAt w b o cs) (hb:Below B w w') (hlt:b<B):CellsAt w' b o cs:=fun j hj=>(hb.cell hlt).trans (h j hj)
theorem BytesAt.below {l:List Int} {a:Option Addr} (h:BytesAt w B l a) (hb:Below B w w'):BytesAt w' B l a:=by
 rcases h with h | ⟨b,o,h1,h2,h3,h4⟩
 ·exact .inl h
 ·exact .inr ⟨b,o,h1,h2,h3.below hb h2,h4⟩
theorem ParamsAt.below (hb:Below B w w'):∀ (l:List ParD) {a:Option Addr},ParamsAt w B N l a→ParamsAt w' B N l a
 | [],_,_=>trivial
 | _::r,_,⟨b,o,h1,h2,h3,h4,h5⟩=>⟨b,o,h1,h2,h3,h4.below hb h2,ParamsAt.below hb r h5⟩
mutual
theorem ValD.At.below (hb:Below B w w'):∀ (v:ValD) {cs:List Value},ValD.At w B N v cs→ValD.At w' B N v cs
 | .mk _ _ _ _ _ _ l f,_,⟨ya,la,fa,yc,lc,fc,h1,h2,h3,h4,h5⟩=>⟨ya,la,fa,yc,lc,fc,h1,h2,h3.below hb,ValsAt.below hb l h4,FieldsAt.below hb f h5⟩
theorem ValsAt.below (hb:Below B w w'):∀ (l:List ValD) {a:Option Addr},ValsAt w B N l a→ValsAt w' B N l a
 | [],_,_=>trivial
 | v::r,_,⟨⟨b,o,cs,h1,h2,h3,h4⟩,h5⟩=>⟨⟨b,o,cs,h1,h2,h3.below hb h2,ValD.At.below hb v h4⟩,ValsAt.below hb r h5⟩
theorem FieldsAt.below (hb:Below B w w'):∀ (l:List (ByteArray×ValD)) {a:Option Addr},FieldsAt w B N l a→FieldsAt w' B N l a
 | [],_,_=>trivial
 | (_,v)::r,_,⟨⟨b,o,cs,h1,h2,h0,h3,h4⟩,h5⟩=>⟨⟨b,o,cs,h1,h2,h0,h3.below hb h2,ValD.At.below hb v h4⟩,FieldsAt.below hb r h5⟩
end
mutual
theorem ExprD.At.below (hb:Below B w w'):∀ (e:ExprD) {cs:List Value},ExprD.At w B N e cs→ExprD.At w' B N e cs
 | .mk _ _ v as fs,_,⟨vs,aa,fa,ac,fc,h1,h2,h3,h4,h5,h6⟩=>⟨vs,aa,fa,ac,fc,h1,h2,ValD.At.below hb v h3,ExprsAt.below hb as h4,FuncsAt.below hb fs h5,h6⟩
theorem ExprsAt.below (hb:Below B w w'):∀ (l:List ExprD) {a:Option Addr},ExprsAt w B N l a→ExprsAt w' B N l a
 | [],_,_=>trivial
 | e::r,_,⟨⟨b,o,cs,h1,h2,h3,h4⟩,h5⟩=>⟨⟨b,o,cs,h1,h2,h3.below hb h2,ExprD.At.below hb e h4⟩,ExprsAt.below hb r h5⟩
theorem FuncD.At.below (hb:Below B w w'):∀ (f:FuncD) {cs:List Value},FuncD.At w B N f cs→FuncD.At w' B N f cs
 | .mk _ ps e,_,⟨pa,pc,es,h1,h2,h3,h4,h5⟩=>⟨pa,pc,es,h1,h2,h3,ParamsAt.below hb ps h4,ExprD.At.below hb e h5⟩
theorem FuncsAt.below (hb:Below B w w'):∀ (l:List FuncD) {a:Option Addr},FuncsAt w B N l a→FuncsAt w' B N l a
 | [],_,_=>trivial
 | f::r,_,⟨⟨b,o,cs,h1,h2,h3,h4⟩,h5⟩=>⟨⟨b,o,cs,h1,h2,h3.below hb h2,FuncD.At.below hb f h4⟩,FuncsAt.below hb r h5⟩
end
theorem BytesAt.mono {B':Nat} {l:List Int} {a:Option Addr} (h:BytesAt w B l a) (hB:B≤B'):BytesAt w B' l a:=by
 rcases h with h | ⟨b,o,h1,h2,h3⟩
 ·exact .inl h
 ·exact .inr ⟨b,o,h1,Nat.lt_of_lt_of_le h2 hB,h3⟩
theorem ParamsAt.mono {B':Nat} (hB:B≤B'):∀ (l:List ParD) {a:Option Addr},ParamsAt w B N l a→ParamsAt w B' N l a
 | [],_,_=>trivial
 | _::r,_,⟨b,o,h1,h2,h3,h4,h5⟩=>⟨b,o,h1,Nat.lt_of_lt_of_le h2 hB,h3,h4,ParamsAt.mono hB r h5⟩
mutual
theorem ValD.At.mono {B':Nat} (hB:B≤B'):∀ (v:ValD) {cs:List Value},ValD.At w B N v cs→ValD.At w B' N v cs
 | .mk _ _ _ _ _ _ l f,_,⟨ya,la,fa,yc,lc,fc,h1,h2,h3,h4,h5⟩=>⟨ya,la,fa,yc,lc,fc,h1,h2,h3.mono hB,ValsAt.mono hB l h4,FieldsAt.mono hB f h5⟩
theorem ValsAt.mono {B':Nat} (hB:B≤B'):∀ (l:List ValD) {a:Option Addr},ValsAt w B N l a→ValsAt w B' N l a
 | [],_,_=>trivial
 | v::r,_,⟨⟨b,o,cs,h1,h2,h3,h4⟩,h5⟩=>⟨⟨b,o,cs,h1,Nat.lt_of_lt_of_le h2 hB,h3,ValD.At.mono hB v h4⟩,ValsAt.mono hB r h5⟩
theorem FieldsAt.mono {B':Nat} (hB:B≤B'):∀ (l:List (ByteArray×ValD)) {a:Option Addr},FieldsAt w B N l a→FieldsAt w B' N l a
 | [],_,_=>trivial
 | (_,v)::r,_,⟨⟨b,o,cs,h1,h2,h0,h3,h4⟩,h5⟩=>⟨⟨b,o,cs,h1,Nat.lt_of_lt_of_le h2 hB,h0,h3,ValD.At.mono hB v h4⟩,FieldsAt.mono hB r h5⟩
end
mutual
theorem ExprD.At.mono {B':Nat} (hB:B≤B'):∀ (e:ExprD) {cs:List Value},ExprD.At w B N e cs→ExprD.At w B' N e cs
 | .mk _ _ v as fs,_,⟨vs,aa,fa,ac,fc,h1,h2,h3,h4,h5,h6⟩=>⟨vs,aa,fa,ac,fc,h1,h2,ValD.At.mono hB v h3,ExprsAt.mono hB as h4,FuncsAt.mono hB fs h5,h6⟩
theorem ExprsAt.mono {B':Nat} (hB:B≤B'):∀ (l:List ExprD) {a:Option Addr},ExprsAt w B N l a→ExprsAt w B' N l a
 | [],_,_=>trivial
 | e::r,_,⟨⟨b,o,cs,h1,h2,h3,h4⟩,h5⟩=>⟨⟨b,o,cs,h1,Nat.lt_of_lt_of_le h2 hB,h3,ExprD.At.mono hB e h4⟩,ExprsAt.mono hB r h5⟩
theorem FuncD.At.mono {B':Nat} (hB:B≤B'):∀ (f:FuncD) {cs:List Value},FuncD.At w B N f cs→FuncD.At w B' N f cs
 | .mk _ ps e,_,⟨pa,pc,es,h1,h2,h3,h4,h5⟩=>⟨pa,pc,es,h1,h2,h3,ParamsAt.mono hB ps h4,ExprD.At.mono hB e h5⟩
theorem FuncsAt.mono {B':Nat} (hB:B≤B'):∀ (l:List FuncD) {a:Option Addr},FuncsAt w B N l a→FuncsAt w B' N l a
 | [],_,_=>trivial
 | f::r,_,⟨⟨b,o,cs,h1,h2,h3,h4⟩,h5⟩=>⟨⟨b,o,cs,h1,Nat.lt_of_lt_of_le h2 hB,h3,FuncD.At.mono hB f h4⟩,FuncsAt.mono hB r h5⟩
end
end
end Go.Proofs.YtagkjofpncpcpaaGreatDoor

/- Steps of a region that draws its order, with their side conditions proved by themselves. -/
namespace Go.Proofs.YtagkjofpncpcpaaGreatDoor
open Go.RowKit

/-- The one operation that is ready. -/
theorem rd1 {P : Program} {md : Region.Mode} {ops : Array Oper} {Q : Exit → Act → World → Prop} {S : World → Prop} {fuel : Nat} {listed : Array Bool} {a : Act} {w : World} (i : Nat) {o : Oper} (ho : ops[i]? = some o)
    (h : ∀ K' : Act → World → Prop, Shut (∀ a w, S w → (S w → wpAnyH P md ops Q S fuel (listed.setIfInBounds i true) a w) → K' a w) → if Region.wanted o (yielded ops a.tmps) = true then Oper.wp P o a w K' Q else K' (a.put o.dst undef) w)
    (hr : Region.ready md ops listed = [i] := by kernel_rfl) : wpAnyH P md ops Q S (fuel + 1) listed a w := wpAnyH_ready hr (by simp) (AllReadyH.cons ho h AllReadyH.nil)
/-- An operation that may be taken first, the state written out as a list. -/
theorem tk {P : Program} {ops : Array Oper} {Q : Exit → Act → World → Prop} {md : Region.Mode} {S : World → Prop} {oi : Oper} {fuel : Nat} {listed : Array Bool} {l : List Value} {df : List Deferred} {w : World} (i : Nat) (v : Value) {t : Nat} (hi : ops[i]? = some oi) (hd : oi.dst = some t)
    (hy : YieldsIf P ops S oi v ⟨l.toArray, df⟩) (hS : S w) (h : wpAnyH P md ops Q S fuel (listed.setIfInBounds i true) ⟨(l.set t v).toArray, df⟩ w)
    (hs : Region.noSelect ops = true := by kernel_rfl) (hf : Region.free md ops listed i = true := by kernel_rfl) (hr : (Region.ready md ops listed).contains i = true := by kernel_rfl)
    (hQ : ∀ c a w, Q (.panic c) (a.put oi.dst v) w → Q (.panic c) a w := by exact fun _ _ _ h => h) : wpAnyH P md ops Q S (fuel + 1) listed ⟨l.toArray, df⟩ w := by
  refine wpAnyH_take hi hs hf hr hQ hy hS ?_
  have e : Act.put (⟨l.toArray, df⟩ : Act) oi.dst v = ⟨(l.set t v).toArray, df⟩ := by
    rw [hd]
    simp [Act.put]
  rw [e]
  exact h
theorem sq1 {α : Type} {a b : α} {l : List α} {n : Nat} : (a :: l).set (n + 1) b = a :: l.set n b := rfl
theorem sq0 {α : Type} {a b : α} {l : List α} : (a :: l).set 0 b = b :: l := rfl
/-- The zero expression's cells, the zero plan's, the input's. -/
abbrev zE0 : Array Value := #[.int .i64 0, .string ⟨#[]⟩, .int .i64 0, .bool false, .bool false, .string ⟨#[]⟩, .int .i64 0, .int .i64 0, .int .i64 0, .int .i64 0, .int .i64 0, .string ⟨#[]⟩, .slice none 0 0, .slice none 0 0, .slice none 0 0, .slice none 0 0, .slice none 0 0]
abbrev zP0 : Array Value := #[.int .i64 0, .slice none 0 0, .string ⟨#[]⟩, .int .i64 0, .string ⟨#[]⟩, .int .i64 0, .bool false, .bool false, .string ⟨#[]⟩, .int .i64 0, .int .i64 0, .int .i64 0, .int .i64 0, .int .i64 0, .string ⟨#[]⟩, .slice none 0 0, .slice none 0 0, .slice none 0 0, .slice none 0 0, .slice none 0 0, .int .i64 0, .string ⟨#[]⟩, .int .i64 0, .bool false, .bool false, .string ⟨#[]⟩, .int .i64 0, .int .i64 0, .int .i64 0, .int .i64 0, .int .i64 0, .string ⟨#[]⟩, .slice none 0 0, .slice none 0 0, .slice none 0 0, .slice none 0 0, .slice none 0 0, .int .i64 0, .string ⟨#[]⟩, .int .i64 0, .bool false, .bool false, .string ⟨#[]⟩, .int .i64 0, .int .i64 0, .int .i64 0, .int .i64 0, .int .i64 0, .string ⟨#[]⟩, .slice none 0 0, .slice none 0 0, .slice none 0 0, .slice none 0 0, .slice none 0 0, .slice none 0 0]
abbrev iE0 : List Value := [.int .i64 1, .string ⟨#[]⟩, .int .i64 0, .bool false, .bool false, .string ⟨#[]⟩, .int .i64 0, .int .i64 0, .int .i64 0, .int .i64 0, .int .i64 0, .string ⟨#[]⟩, .slice none 0 0, .slice none 0 0, .slice none 0 0, .slice none 0 0, .slice none 0 0]
theorem Hd {p : Prop} (h : p) : Hid p := Lib.hid h
end Go.Proofs.YtagkjofpncpcpaaGreatDoor

/- What lies in memory where a tree lies: each cell by its place. -/
namespace Go.Proofs.YtagkjofpncpcpaaGreatDoor
open Go.RowKit Go.Deep
def ExprD.row (e:ExprD) (ya la va aa fa:Option Addr) (yc lc vc ac fc:Nat):List Value :=
 [.int .i64 e.op,.string e.name,.int .i64 e.val.kind,.bool e.val.bool,.bool e.val.num.neg,.string e.val.num.digits,.int .i64 e.val.num.exp,.int .i64 e.val.time.kind,.int .i64 e.val.time.day,.int .i64 e.val.time.nano,.int .i64 e.val.time.offset,
  .string e.val.text,.slice ya e.val.bytes.length yc,.slice la e.val.list.length lc,.slice va e.val.fields.length vc,.slice aa e.args.length ac,.slice fa e.funcs.length fc]
def ValD.row (v:ValD) (ya la va:Option Addr) (yc lc vc:Nat):List Value :=
 [.int .i64 v.kind,.bool v.bool,.bool v.num.neg,.string v.num.digits,.int .i64 v.num.exp,.int .i64 v.time.kind,.int .i64 v.time.day,.int .i64 v.time.nano,.int .i64 v.time.offset,
  .string v.text,.slice ya v.bytes.length yc,.slice la v.list.length lc,.slice va v.fields.length vc]
theorem ValD.At.row {w:World} {B N:Nat} {v:ValD} {cs:List Value} (h:ValD.At w B N v cs) :
 ∃ ya la va yc lc vc,cs=v.row ya la va yc lc vc∧v.Own N∧BytesAt w B v.bytes ya∧ValsAt w B N v.list la∧FieldsAt w B N v.fields va:=by
 obtain ⟨k,b,n,t,x,y,l,f⟩:=v
 obtain ⟨ya,la,fa,yc,lc,fc,h1,h2,h3,h4,h5⟩:=h
 exact ⟨ya,la,fa,yc,lc,fc,h1,h2,h3,h4,h5⟩
theorem ValD.At.mk {w:World} {B N:Nat} {v:ValD} {ya la va:Option Addr} {yc lc vc:Nat} (h2:v.Own N) (h3:BytesAt w B v.bytes ya) (h4:ValsAt w B N v.list la) (h5:FieldsAt w B N v.fields va):ValD.At w B N v (v.row ya la va yc lc vc):=by
 obtain ⟨k,b,n,t,x,y,l,f⟩:=v
 exact ⟨ya,la,va,yc,lc,vc,rfl,h2,h3,h4,h5⟩
theorem ExprD.At.rowc {w:World} {B N:Nat} {e:ExprD} {cs:List Value} (h:ExprD.At w B N e cs) :
 ∃ ya la va aa fa yc lc vc ac fc,cs=e.row ya la va aa fa yc lc vc ac fc∧e.Own N∧e.val.Own N∧BytesAt w B e.val.bytes ya∧ValsAt w B N e.val.list la∧FieldsAt w B N e.val.fields va∧ExprsAt w B N e.args aa∧FuncsAt w B N e.funcs fa∧e.args.length≤ac:=by
 obtain ⟨op,nm,v,as,fs⟩:=e
 obtain ⟨vs,aa,fa,ac,fc,h1,h2,h3,h4,h5⟩:=h
 obtain ⟨ya,la,va,yc,lc,vc,rfl,k2,k3,k4,k5⟩:=h3.row
 exact ⟨ya,la,va,aa,fa,yc,lc,vc,ac,fc,h1,h2,k2,k3,k4,k5,h4,h5⟩
theorem ExprD.At.row {w:World} {B N:Nat} {e:ExprD} {cs:List Value} (h:ExprD.At w B N e cs) :
 ∃ ya la va aa fa yc lc vc ac fc,cs=e.row ya la va aa fa yc lc vc ac fc∧e.Own N∧e.val.Own N∧BytesAt w B e.val.bytes ya∧ValsAt w B N e.val.list la∧FieldsAt w B N e.val.fields va∧ExprsAt w B N e.args aa∧FuncsAt w B N e.funcs fa:=by
 obtain ⟨ya,la,va,aa,fa,yc,lc,vc,ac,fc,h0,h1,h2,h3,h4,h5,h6,h7,_⟩:=h.rowc
 exact ⟨ya,la,va,aa,fa,yc,lc,vc,ac,fc,h0,h1,h2,h3,h4,h5,h6,h7⟩
theorem ExprD.At.mk {w:World} {B N:Nat} {e:ExprD} {ya la va aa fa:Option Addr} {yc lc vc ac fc:Nat} (h1:e.Own N) (h2:e.val.Own N) (h3:BytesAt w B e.val.bytes ya) (h4:ValsAt w B N e.val.list la) (h5:FieldsAt w B N e.val.fields va)
 (h6:ExprsAt w B N e.args aa) (h7:FuncsAt w B N e.funcs fa) (h8:e.args.length≤ac):ExprD.At w B N e (e.row ya la va aa fa yc lc vc ac fc):=by
 obtain ⟨op,nm,v,as,fs⟩:=e
 exact ⟨v.row ya la va yc lc vc,aa,fa,ac,fc,rfl,h1,ValD.At.mk h2 h3 h4 h5,h6,h7,h8⟩
theorem ExprsAt.get {w:World} {B N:Nat}:∀ {l:List ExprD} {a:Option Addr},ExprsAt w B N l a→l≠[]→∃ b o,a=some ⟨b,o,none⟩∧b<B∧∀ i (hi:i<l.length),∃ cs,CellsAt w b (o+i * 17) cs∧ExprD.At w B N l[i] cs
 | [],_,_,h=>absurd rfl h
 | e::r,_,⟨⟨b,o,cs,h1,h2,h3,h4⟩,h5⟩,_=>by
   subst h1
   refine ⟨b,o,rfl,h2,fun i hi=>?_⟩
   match i with
   | 0=>exact ⟨cs,by simpa using h3,h4⟩
   | i+1 =>
     have hr:r≠[]:=by rintro rfl;simp at hi
     obtain ⟨b',o',e1,_,h6⟩:=ExprsAt.get h5 hr
     simp at e1
     obtain ⟨rfl,rfl⟩:=e1
     obtain ⟨cs,h7,h8⟩:=h6 i (by simpa using hi)
     exact ⟨cs,by rw [show o+(i+1) * 17=o+17+i * 17 by omega];exact h7,h8⟩
theorem ValsAt.get {w:World} {B N:Nat}:∀ {l:List ValD} {a:Option Addr},ValsAt w B N l a→l≠[]→∃ b o,a=some ⟨b,o,none⟩∧b<B∧∀ i (hi:i<l.length),∃ cs,CellsAt w b (o+i * 13) cs∧ValD.At w B N l[i] cs
 | [],_,_,h=>absurd rfl h
 | e::r,_,⟨⟨b,o,cs,h1,h2,h3,h4⟩,h5⟩,_=>by
   subst h1
   refine ⟨b,o,rfl,h2,fun i hi=>?_⟩
   match i with
   | 0=>exact ⟨cs,by simpa using h3,h4⟩
   | i+1 =>
     have hr:r≠[]:=by rintro rfl;simp at hi
     obtain ⟨b',o',e1,_,h6⟩:=ValsAt.get h5 hr
     simp at e1
     obtain ⟨rfl,rfl⟩:=e1
     obtain ⟨cs,h7,h8⟩:=h6 i (by simpa using hi)
     exact ⟨cs,by rw [show o+(i+1) * 13=o+13+i * 13 by omega];exact h7,h8⟩
theorem FieldsAt.get {w:World} {B N:Nat}:∀ {l:List (ByteArray×ValD)} {a:Option Addr},FieldsAt w B N l a→l≠[]→∃ b o,a=some ⟨b,o,none⟩∧b<B∧∀ i (hi:i<l.length),∃ cs,l[i].1.size≤N∧CellsAt w b (o+i * 14) (.string l[i].1::cs)∧ValD.At w B N l[i].2 cs
 | [],_,_,h=>absurd rfl h
 | (k,v)::r,_,⟨⟨b,o,cs,h1,h2,h0,h3,h4⟩,h5⟩,_=>by
   subst h1
   refine ⟨b,o,rfl,h2,fun i hi=>?_⟩
   match i with
   | 0=>exact ⟨cs,h0,by simpa using h3,h4⟩
   | i+1 =>
     have hr:r≠[]:=by rintro rfl;simp at hi
     obtain ⟨b',o',e1,_,h6⟩:=FieldsAt.get h5 hr
     simp at e1
     obtain ⟨rfl,rfl⟩:=e1
     obtain ⟨cs,h9,h7,h8⟩:=h6 i (by simpa using hi)
     exact ⟨cs,h9,by rw [show o+(i+1) * 14=o+14+i * 14 by omega];exact h7,h8⟩
theorem FuncsAt.get {w:World} {B N:Nat}:∀ {l:List FuncD} {a:Option Addr},FuncsAt w B N l a→l≠[]→∃ b o,a=some ⟨b,o,none⟩∧b<B∧∀ i (hi:i<l.length),∃ cs,CellsAt w b (o+i * 19) cs∧FuncD.At w B N l[i] cs
 | [],_,_,h=>absurd rfl h
 | e::r,_,⟨⟨b,o,cs,h1,h2,h3,h4⟩,h5⟩,_=>by
   subst h1
   refine ⟨b,o,rfl,h2,fun i hi=>?_⟩
   match i with
   | 0=>exact ⟨cs,by simpa using h3,h4⟩
   | i+1 =>
     have hr:r≠[]:=by rintro rfl;simp at hi
     obtain ⟨b',o',e1,_,h6⟩:=FuncsAt.get h5 hr
     simp at e1
     obtain ⟨rfl,rfl⟩:=e1
     obtain ⟨cs,h7,h8⟩:=h6 i (by simpa using hi)
     exact ⟨cs,by rw [show o+(i+1) * 19=o+19+i * 19 by omega];exact h7,h8⟩
theorem ParamsAt.get {w:World} {B N:Nat}:∀ {l:List ParD} {a:Option Addr},ParamsAt w B N l a→l≠[]→∃ b o,a=some ⟨b,o,none⟩∧b<B∧∀ i (hi:i<l.length),l[i].name.size≤N∧CellsAt w b (o+i * 2) l[i].cells
 | [],_,_,h=>absurd rfl h
 | e::r,_,⟨b,o,h1,h2,h3,h4,h5⟩,_=>by
   subst h1
   refine ⟨b,o,rfl,h2,fun i hi=>?_⟩
   match i with
   | 0=>exact ⟨h3,by simpa using h4⟩
   | i+1 =>
     have hr:r≠[]:=by rintro rfl;simp at hi
     obtain ⟨b',o',e1,_,h6⟩:=ParamsAt.get h5 hr
     simp at e1
     obtain ⟨rfl,rfl⟩:=e1
     obtain ⟨h7,h8⟩:=h6 i (by simpa using hi)
     exact ⟨h7,by rw [show o+(i+1) * 2=o+2+i * 2 by omega];exact h8⟩
theorem ValsAt_of' {w:World} {B N b:Nat} (hb:b<B):∀ (l:List ValD) (o:Nat),(∀ i (hi:i<l.length),∃ cs,CellsAt w b (o+i * 13) cs∧ValD.At w B N l[i] cs)→ValsAt w B N l (some ⟨b,o,none⟩)
 | [],_,_=>trivial
 | v::r,o,h=>by
   obtain ⟨cs,h1,h2⟩:=h 0 (by simp)
   refine ⟨⟨b,o,cs,rfl,hb,by simpa using h1,h2⟩,ValsAt_of' hb r (o+13) fun i hi=>?_⟩
   obtain ⟨cs,h1,h2⟩:=h (i+1) (by simpa using hi)
   exact ⟨cs,by rw [show o+13+i * 13=o+(i+1) * 13 by omega];exact h1,h2⟩
theorem CellsAt.val {w:World} {b o:Nat} {v:ValD} {ya la va:Option Addr} {yc lc vc:Nat} (h:CellsAt w b o (v.row ya la va yc lc vc)) :
 w.cell? ⟨b,o,none⟩=some (.int .i64 v.kind)∧w.cell? ⟨b,o+1,none⟩=some (.bool v.bool) ∧
 w.cell? ⟨b,o+2,none⟩=some (.bool v.num.neg)∧w.cell? ⟨b,o+3,none⟩=some (.string v.num.digits)∧w.cell? ⟨b,o+4,none⟩=some (.int .i64 v.num.exp) ∧
 w.cell? ⟨b,o+5,none⟩=some (.int .i64 v.time.kind)∧w.cell? ⟨b,o+6,none⟩=some (.int .i64 v.time.day)∧w.cell? ⟨b,o+7,none⟩=some (.int .i64 v.time.nano)∧w.cell? ⟨b,o+8,none⟩=some (.int .i64 v.time.offset) ∧
 w.cell? ⟨b,o+9,none⟩=some (.string v.text)∧w.cell? ⟨b,o+10,none⟩=some (.slice ya v.bytes.length yc)∧w.cell? ⟨b,o+11,none⟩=some (.slice la v.list.length lc)∧w.cell? ⟨b,o+12,none⟩=some (.slice va v.fields.length vc):=by
 have hl:(v.row ya la va yc lc vc).length=13:=rfl
 exact ⟨h 0 (by omega),h 1 (by omega),h 2 (by omega),h 3 (by omega),h 4 (by omega),h 5 (by omega),h 6 (by omega),h 7 (by omega),h 8 (by omega),h 9 (by omega),h 10 (by omega),h 11 (by omega),h 12 (by omega)⟩
theorem CellsAt.tail {w:World} {b o:Nat} {c:Value} {cs:List Value} (h:CellsAt w b o (c::cs)):CellsAt w b (o+1) cs:=fun j hj=>by
 have:=h (j+1) (by simpa using hj)
 rw [show o+1+j=o+(j+1) by omega]
 simpa using this
theorem CellsAt.range {w:World} {b o:Nat} {cs:List Value} (h:CellsAt w b o cs):w.rangeAt b o cs:=fun j v hv=>by
 have hj:j<cs.length:=(List.getElem?_eq_some_iff.1 hv).1
 rw [h j hj,hv]
theorem CellsAt.get0' {w:World} {b o:Nat} {cs:List Value} (h:CellsAt w b o cs) {v:Value} (hv:cs[0]?=some v):w.cell? ⟨b,o,none⟩=some v:=by
 have:=h 0 (List.getElem?_eq_some_iff.1 hv).1
 rw [Nat.add_zero] at this
 rw [this,hv]
theorem ValD.At.len {w:World} {B N:Nat} {v:ValD} {cs:List Value} (h:ValD.At w B N v cs):cs.length=13:=by
 obtain ⟨ya,la,va,yc,lc,vc,rfl,_⟩:=h.row
 rfl
theorem ExprD.At.len {w:World} {B N:Nat} {e:ExprD} {cs:List Value} (h:ExprD.At w B N e cs):cs.length=17:=by
 obtain ⟨ya,la,va,aa,fa,yc,lc,vc,ac,fc,rfl,_⟩:=h.row
 rfl
theorem FuncD.At.len {w:World} {B N:Nat} {f:FuncD} {cs:List Value} (h:FuncD.At w B N f cs):cs.length=19:=by
 obtain ⟨nm,ps,e⟩:=f
 obtain ⟨pa,pc,es,rfl,_,_,_,h⟩:=h
 simp [h.len]
structure ExprD.Has (w:World) (B N:Nat) (e:ExprD) (cs:List Value) (aa fa:Option Addr) (ac fc:Nat) (vs:List Value):Prop where
 len:cs.length=17
 op:cs[0]?=some (.int .i64 e.op)
 name:cs[1]?=some (.string e.name)
 args:cs[15]?=some (.slice aa e.args.length ac)
 funcs:cs[16]?=some (.slice fa e.funcs.length fc)
 val:(cs.drop 2).take 13=vs
 own:e.Own N
 atVal:ValD.At w B N e.val vs
 atArgs:ExprsAt w B N e.args aa
 atFuncs:FuncsAt w B N e.funcs fa
 cap:e.args.length≤ac
theorem ExprD.At.has {w:World} {B N:Nat} {e:ExprD} {cs:List Value} (h:ExprD.At w B N e cs):∃ aa fa ac fc vs,ExprD.Has w B N e cs aa fa ac fc vs:=by
 obtain ⟨ya,la,va,aa,fa,yc,lc,vc,ac,fc,rfl,h1,h2,h3,h4,h5,h6,h7,h8⟩:=h.rowc
 exact ⟨aa,fa,ac,fc,e.val.row ya la va yc lc vc,⟨rfl,rfl,rfl,rfl,rfl,rfl,h1,ValD.At.mk h2 h3 h4 h5,h6,h7,h8⟩⟩
structure ValD.Has (w:World) (B N:Nat) (v:ValD) (cs:List Value) (ya la va:Option Addr) (yc lc vc:Nat):Prop where
 len:cs.length=13
 kind:cs[0]?=some (.int .i64 v.kind)
 bool:cs[1]?=some (.bool v.bool)
 neg:cs[2]?=some (.bool v.num.neg)
 digits:cs[3]?=some (.string v.num.digits)
 exp:cs[4]?=some (.int .i64 v.num.exp)
 tkind:cs[5]?=some (.int .i64 v.time.kind)
 day:cs[6]?=some (.int .i64 v.time.day)
 nano:cs[7]?=some (.int .i64 v.time.nano)
 offset:cs[8]?=some (.int .i64 v.time.offset)
 text:cs[9]?=some (.string v.text)
 bytes:cs[10]?=some (.slice ya v.bytes.length yc)
 list:cs[11]?=some (.slice la v.list.length lc)
 fields:cs[12]?=some (.slice va v.fields.length vc)
 own:v.Own N
 atBytes:BytesAt w B v.bytes ya
 atList:ValsAt w B N v.list la
 atFields:FieldsAt w B N v.fields va
theorem ValD.At.has {w:World} {B N:Nat} {v:ValD} {cs:List Value} (h:ValD.At w B N v cs):∃ ya la va yc lc vc,ValD.Has w B N v cs ya la va yc lc vc:=by
 obtain ⟨ya,la,va,yc,lc,vc,rfl,h2,h3,h4,h5⟩:=h.row
 exact ⟨ya,la,va,yc,lc,vc,⟨rfl,rfl,rfl,rfl,rfl,rfl,rfl,rfl,rfl,rfl,rfl,rfl,rfl,rfl,h2,h3,h4,h5⟩⟩
end Go.Proofs.YtagkjofpncpcpaaGreatDoor
