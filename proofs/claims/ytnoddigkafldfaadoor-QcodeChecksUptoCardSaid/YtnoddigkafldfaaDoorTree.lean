/- Values and expressions as trees, and what it means that cells in memory hold such a tree. -/
import Derived.Below
import Derived.Laws.AppendOwn
import Derived.Deep.Slices
namespace Go.Proofs.YtnoddigkafldfaaDoor
open Go.RowKit Go.Deep

structure DecD where
  neg : Bool
  digits : ByteArray
  exp : Int
structure TimeD where
  kind : Int
  day : Int
  nano : Int
  offset : Int
inductive ValD where
  | mk (kind : Int) (bool : Bool) (num : DecD) (time : TimeD) (text : ByteArray) (bytes : List Int) (list : List ValD) (fields : List (ByteArray × ValD))
instance : Inhabited DecD := ⟨⟨false, ByteArray.empty, 0⟩⟩
instance : Inhabited TimeD := ⟨⟨0, 0, 0, 0⟩⟩
instance : Inhabited ValD := ⟨.mk 0 false default default ByteArray.empty [] [] []⟩
structure ParD where
  name : ByteArray
  value : Bool
instance : Inhabited ParD := ⟨⟨ByteArray.empty, false⟩⟩
mutual
inductive ExprD where
  | mk (op : Int) (name : ByteArray) (val : ValD) (args : List ExprD) (funcs : List FuncD)
inductive FuncD where
  | mk (name : ByteArray) (params : List ParD) (body : ExprD)
end
instance : Inhabited ExprD := ⟨.mk 0 ByteArray.empty default [] []⟩
instance : Inhabited FuncD := ⟨.mk ByteArray.empty [] default⟩

def ValD.kind : ValD → Int | .mk k _ _ _ _ _ _ _ => k
def ValD.bool : ValD → Bool | .mk _ b _ _ _ _ _ _ => b
def ValD.num : ValD → DecD | .mk _ _ n _ _ _ _ _ => n
def ValD.time : ValD → TimeD | .mk _ _ _ t _ _ _ _ => t
def ValD.text : ValD → ByteArray | .mk _ _ _ _ x _ _ _ => x
def ValD.bytes : ValD → List Int | .mk _ _ _ _ _ y _ _ => y
def ValD.list : ValD → List ValD | .mk _ _ _ _ _ _ l _ => l
def ValD.fields : ValD → List (ByteArray × ValD) | .mk _ _ _ _ _ _ _ f => f
def ExprD.op : ExprD → Int | .mk o _ _ _ _ => o
def ExprD.name : ExprD → ByteArray | .mk _ n _ _ _ => n
def ExprD.val : ExprD → ValD | .mk _ _ v _ _ => v
def ExprD.args : ExprD → List ExprD | .mk _ _ _ a _ => a
def ExprD.funcs : ExprD → List FuncD | .mk _ _ _ _ f => f
def FuncD.name : FuncD → ByteArray | .mk n _ _ => n
def FuncD.params : FuncD → List ParD | .mk _ p _ => p
def FuncD.body : FuncD → ExprD | .mk _ _ e => e

def I64 (n : Int) : Prop := -9223372036854775808 ≤ n ∧ n ≤ 9223372036854775807

/-- The n cells from the offset o of block b on are cs. -/
def CellsAt (w : World) (b o : Nat) (cs : List Value) : Prop := ∀ j, j < cs.length → w.cell? ⟨b, o + j, none⟩ = cs[j]?

/-- Numbers (bytes) that lie one after the other. -/
def BytesAt (w : World) (B : Nat) (l : List Int) (a : Option Addr) : Prop :=
  l = [] ∨ ∃ b o, a = some ⟨b, o, none⟩ ∧ b < B ∧ CellsAt w b o (l.map (Value.int .u8)) ∧ ∀ x ∈ l, 0 ≤ x ∧ x ≤ 255

def ParD.cells (p : ParD) : List Value := [.string p.name, .bool p.value]
def ParamsAt (w : World) (B N : Nat) : List ParD → Option Addr → Prop
  | [], _ => True
  | p :: r, a => ∃ b o, a = some ⟨b, o, none⟩ ∧ b < B ∧ p.name.size ≤ N ∧ CellsAt w b o p.cells ∧ ParamsAt w B N r (some ⟨b, o + 2, none⟩)

/-- The thirteen cells of a value, given those of its three slices. -/
def ValD.cellsOf (v : ValD) (ya la fa : Option Addr) (yc lc fc : Nat) : List Value :=
  [.int .i64 v.kind, .bool v.bool, .bool v.num.neg, .string v.num.digits, .int .i64 v.num.exp, .int .i64 v.time.kind, .int .i64 v.time.day, .int .i64 v.time.nano, .int .i64 v.time.offset,
    .string v.text, .slice ya v.bytes.length yc, .slice la v.list.length lc, .slice fa v.fields.length fc]

/-- The numbers and the lengths of a value's own cells are in range. -/
def ValD.Own (v : ValD) (N : Nat) : Prop :=
  I64 v.kind ∧ I64 v.num.exp ∧ I64 v.time.kind ∧ I64 v.time.day ∧ I64 v.time.nano ∧ I64 v.time.offset ∧ v.num.digits.size ≤ N ∧ v.text.size ≤ N ∧ v.bytes.length ≤ N ∧ v.list.length ≤ N ∧ v.fields.length ≤ N

mutual
def ValD.At (w : World) (B N : Nat) : ValD → List Value → Prop
  | .mk k b n t x y l f, cs => ∃ ya la fa yc lc fc, cs = ValD.cellsOf (.mk k b n t x y l f) ya la fa yc lc fc ∧ ValD.Own (.mk k b n t x y l f) N ∧ BytesAt w B y ya ∧ ValsAt w B N l la ∧ FieldsAt w B N f fa
def ValsAt (w : World) (B N : Nat) : List ValD → Option Addr → Prop
  | [], _ => True
  | v :: r, a => (∃ b o cs, a = some ⟨b, o, none⟩ ∧ b < B ∧ CellsAt w b o cs ∧ ValD.At w B N v cs) ∧ ValsAt w B N r (a.map fun a => ⟨a.block, a.off + 13, none⟩)
def FieldsAt (w : World) (B N : Nat) : List (ByteArray × ValD) → Option Addr → Prop
  | [], _ => True
  | (k, v) :: r, a => (∃ b o cs, a = some ⟨b, o, none⟩ ∧ b < B ∧ k.size ≤ N ∧ CellsAt w b o (.string k :: cs) ∧ ValD.At w B N v cs) ∧ FieldsAt w B N r (a.map fun a => ⟨a.block, a.off + 14, none⟩)
end

/-- The seventeen cells of an expression. -/
def ExprD.cellsOf (e : ExprD) (vs : List Value) (aa fa : Option Addr) (ac fc : Nat) : List Value :=
  .int .i64 e.op :: .string e.name :: (vs ++ [.slice aa e.args.length ac, .slice fa e.funcs.length fc])
def ExprD.Own (e : ExprD) (N : Nat) : Prop := I64 e.op ∧ e.name.size ≤ N ∧ e.args.length ≤ N ∧ e.funcs.length ≤ N

mutual
def ExprD.At (w : World) (B N : Nat) : ExprD → List Value → Prop
  | .mk op nm v as fs, cs => ∃ vs aa fa ac fc, cs = ExprD.cellsOf (.mk op nm v as fs) vs aa fa ac fc ∧ ExprD.Own (.mk op nm v as fs) N ∧ ValD.At w B N v vs ∧ ExprsAt w B N as aa ∧ FuncsAt w B N fs fa
def ExprsAt (w : World) (B N : Nat) : List ExprD → Option Addr → Prop
  | [], _ => True
  | e :: r, a => (∃ b o cs, a = some ⟨b, o, none⟩ ∧ b < B ∧ CellsAt w b o cs ∧ ExprD.At w B N e cs) ∧ ExprsAt w B N r (a.map fun a => ⟨a.block, a.off + 17, none⟩)
def FuncD.At (w : World) (B N : Nat) : FuncD → List Value → Prop
  | .mk nm ps e, cs => ∃ pa pc es, cs = .string nm :: .slice pa ps.length pc :: es ∧ nm.size ≤ N ∧ ps.length ≤ N ∧ ParamsAt w B N ps pa ∧ ExprD.At w B N e es
def FuncsAt (w : World) (B N : Nat) : List FuncD → Option Addr → Prop
  | [], _ => True
  | f :: r, a => (∃ b o cs, a = some ⟨b, o, none⟩ ∧ b < B ∧ CellsAt w b o cs ∧ FuncD.At w B N f cs) ∧ FuncsAt w B N r (a.map fun a => ⟨a.block, a.off + 19, none⟩)
end

/-! ### Carried over -/
section
variable {w w' : World} {B N : Nat}

theorem CellsAt.below {b o : Nat} {cs : List Value} (h : CellsAt w b o cs) (hb : Below B w w') (hlt : b < B) : CellsAt w' b o cs := fun j hj => (hb.cell hlt).trans (h j hj)

theorem BytesAt.below {l : List Int} {a : Option Addr} (h : BytesAt w B l a) (hb : Below B w w') : BytesAt w' B l a := by
  rcases h with h | ⟨b, o, h1, h2, h3, h4⟩
  · exact .inl h
  · exact .inr ⟨b, o, h1, h2, h3.below hb h2, h4⟩

theorem ParamsAt.below (hb : Below B w w') : ∀ (l : List ParD) {a : Option Addr}, ParamsAt w B N l a → ParamsAt w' B N l a
  | [], _, _ => trivial
  | _ :: r, _, ⟨b, o, h1, h2, h3, h4, h5⟩ => ⟨b, o, h1, h2, h3, h4.below hb h2, ParamsAt.below hb r h5⟩

mutual
theorem ValD.At.below (hb : Below B w w') : ∀ (v : ValD) {cs : List Value}, ValD.At w B N v cs → ValD.At w' B N v cs
  | .mk _ _ _ _ _ _ l f, _, ⟨ya, la, fa, yc, lc, fc, h1, h2, h3, h4, h5⟩ => ⟨ya, la, fa, yc, lc, fc, h1, h2, h3.below hb, ValsAt.below hb l h4, FieldsAt.below hb f h5⟩
theorem ValsAt.below (hb : Below B w w') : ∀ (l : List ValD) {a : Option Addr}, ValsAt w B N l a → ValsAt w' B N l a
  | [], _, _ => trivial
  | v :: r, _, ⟨⟨b, o, cs, h1, h2, h3, h4⟩, h5⟩ => ⟨⟨b, o, cs, h1, h2, h3.below hb h2, ValD.At.below hb v h4⟩, ValsAt.below hb r h5⟩
theorem FieldsAt.below (hb : Below B w w') : ∀ (l : List (ByteArray × ValD)) {a : Option Addr}, FieldsAt w B N l a → FieldsAt w' B N l a
  | [], _, _ => trivial
  | (_, v) :: r, _, ⟨⟨b, o, cs, h1, h2, h0, h3, h4⟩, h5⟩ => ⟨⟨b, o, cs, h1, h2, h0, h3.below hb h2, ValD.At.below hb v h4⟩, FieldsAt.below hb r h5⟩
end

mutual
theorem ExprD.At.below (hb : Below B w w') : ∀ (e : ExprD) {cs : List Value}, ExprD.At w B N e cs → ExprD.At w' B N e cs
  | .mk _ _ v as fs, _, ⟨vs, aa, fa, ac, fc, h1, h2, h3, h4, h5⟩ => ⟨vs, aa, fa, ac, fc, h1, h2, ValD.At.below hb v h3, ExprsAt.below hb as h4, FuncsAt.below hb fs h5⟩
theorem ExprsAt.below (hb : Below B w w') : ∀ (l : List ExprD) {a : Option Addr}, ExprsAt w B N l a → ExprsAt w' B N l a
  | [], _, _ => trivial
  | e :: r, _, ⟨⟨b, o, cs, h1, h2, h3, h4⟩, h5⟩ => ⟨⟨b, o, cs, h1, h2, h3.below hb h2, ExprD.At.below hb e h4⟩, ExprsAt.below hb r h5⟩
theorem FuncD.At.below (hb : Below B w w') : ∀ (f : FuncD) {cs : List Value}, FuncD.At w B N f cs → FuncD.At w' B N f cs
  | .mk _ ps e, _, ⟨pa, pc, es, h1, h2, h3, h4, h5⟩ => ⟨pa, pc, es, h1, h2, h3, ParamsAt.below hb ps h4, ExprD.At.below hb e h5⟩
theorem FuncsAt.below (hb : Below B w w') : ∀ (l : List FuncD) {a : Option Addr}, FuncsAt w B N l a → FuncsAt w' B N l a
  | [], _, _ => trivial
  | f :: r, _, ⟨⟨b, o, cs, h1, h2, h3, h4⟩, h5⟩ => ⟨⟨b, o, cs, h1, h2, h3.below hb h2, FuncD.At.below hb f h4⟩, FuncsAt.below hb r h5⟩
end

/-! ### A greater bound on the blocks -/
theorem BytesAt.mono {B' : Nat} {l : List Int} {a : Option Addr} (h : BytesAt w B l a) (hB : B ≤ B') : BytesAt w B' l a := by
  rcases h with h | ⟨b, o, h1, h2, h3⟩
  · exact .inl h
  · exact .inr ⟨b, o, h1, Nat.lt_of_lt_of_le h2 hB, h3⟩
theorem ParamsAt.mono {B' : Nat} (hB : B ≤ B') : ∀ (l : List ParD) {a : Option Addr}, ParamsAt w B N l a → ParamsAt w B' N l a
  | [], _, _ => trivial
  | _ :: r, _, ⟨b, o, h1, h2, h3, h4, h5⟩ => ⟨b, o, h1, Nat.lt_of_lt_of_le h2 hB, h3, h4, ParamsAt.mono hB r h5⟩
mutual
theorem ValD.At.mono {B' : Nat} (hB : B ≤ B') : ∀ (v : ValD) {cs : List Value}, ValD.At w B N v cs → ValD.At w B' N v cs
  | .mk _ _ _ _ _ _ l f, _, ⟨ya, la, fa, yc, lc, fc, h1, h2, h3, h4, h5⟩ => ⟨ya, la, fa, yc, lc, fc, h1, h2, h3.mono hB, ValsAt.mono hB l h4, FieldsAt.mono hB f h5⟩
theorem ValsAt.mono {B' : Nat} (hB : B ≤ B') : ∀ (l : List ValD) {a : Option Addr}, ValsAt w B N l a → ValsAt w B' N l a
  | [], _, _ => trivial
  | v :: r, _, ⟨⟨b, o, cs, h1, h2, h3, h4⟩, h5⟩ => ⟨⟨b, o, cs, h1, Nat.lt_of_lt_of_le h2 hB, h3, ValD.At.mono hB v h4⟩, ValsAt.mono hB r h5⟩
theorem FieldsAt.mono {B' : Nat} (hB : B ≤ B') : ∀ (l : List (ByteArray × ValD)) {a : Option Addr}, FieldsAt w B N l a → FieldsAt w B' N l a
  | [], _, _ => trivial
  | (_, v) :: r, _, ⟨⟨b, o, cs, h1, h2, h0, h3, h4⟩, h5⟩ => ⟨⟨b, o, cs, h1, Nat.lt_of_lt_of_le h2 hB, h0, h3, ValD.At.mono hB v h4⟩, FieldsAt.mono hB r h5⟩
end
mutual
theorem ExprD.At.mono {B' : Nat} (hB : B ≤ B') : ∀ (e : ExprD) {cs : List Value}, ExprD.At w B N e cs → ExprD.At w B' N e cs
  | .mk _ _ v as fs, _, ⟨vs, aa, fa, ac, fc, h1, h2, h3, h4, h5⟩ => ⟨vs, aa, fa, ac, fc, h1, h2, ValD.At.mono hB v h3, ExprsAt.mono hB as h4, FuncsAt.mono hB fs h5⟩
theorem ExprsAt.mono {B' : Nat} (hB : B ≤ B') : ∀ (l : List ExprD) {a : Option Addr}, ExprsAt w B N l a → ExprsAt w B' N l a
  | [], _, _ => trivial
  | e :: r, _, ⟨⟨b, o, cs, h1, h2, h3, h4⟩, h5⟩ => ⟨⟨b, o, cs, h1, Nat.lt_of_lt_of_le h2 hB, h3, ExprD.At.mono hB e h4⟩, ExprsAt.mono hB r h5⟩
theorem FuncD.At.mono {B' : Nat} (hB : B ≤ B') : ∀ (f : FuncD) {cs : List Value}, FuncD.At w B N f cs → FuncD.At w B' N f cs
  | .mk _ ps e, _, ⟨pa, pc, es, h1, h2, h3, h4, h5⟩ => ⟨pa, pc, es, h1, h2, h3, ParamsAt.mono hB ps h4, ExprD.At.mono hB e h5⟩
theorem FuncsAt.mono {B' : Nat} (hB : B ≤ B') : ∀ (l : List FuncD) {a : Option Addr}, FuncsAt w B N l a → FuncsAt w B' N l a
  | [], _, _ => trivial
  | f :: r, _, ⟨⟨b, o, cs, h1, h2, h3, h4⟩, h5⟩ => ⟨⟨b, o, cs, h1, Nat.lt_of_lt_of_le h2 hB, h3, FuncD.At.mono hB f h4⟩, FuncsAt.mono hB r h5⟩
end
end
end Go.Proofs.YtnoddigkafldfaaDoor
