/- Instructions in memory. -/
import Derived.Test.YtnoddigkafldfaaDoorIns41
namespace Go.Proofs.YtnoddigkafldfaaDoor
open Go.RowKit

def InsD.At (w : World) (B N : Nat) (x : InsD) (cs : List Value) : Prop := ∃ vs, cs = .int .i64 x.op :: .int .i64 x.a :: .int .i64 x.b :: .string x.name :: vs ∧ x.name.size ≤ N ∧ I64 x.op ∧ I64 x.a ∧ I64 x.b ∧ ValD.At w B N x.val vs
section
variable {w w' : World} {B N : Nat} {x : InsD} {cs : List Value}
theorem InsD.At.below (h : InsD.At w B N x cs) (hb : Below B w w') : InsD.At w' B N x cs := by
  obtain ⟨vs, h1, h2, h3, h4, h5, h6⟩ := h
  exact ⟨vs, h1, h2, h3, h4, h5, h6.below hb⟩
theorem InsD.At.mono {B' : Nat} (h : InsD.At w B N x cs) (hB : B ≤ B') : InsD.At w B' N x cs := by
  obtain ⟨vs, h1, h2, h3, h4, h5, h6⟩ := h
  exact ⟨vs, h1, h2, h3, h4, h5, h6.mono hB⟩
theorem InsD.At.len (h : InsD.At w B N x cs) : cs.length = 17 := by
  obtain ⟨vs, rfl, _, _, _, _, h6⟩ := h
  have := h6.len
  simp [this]
theorem InsD.At.oneCell (h : InsD.At w B N x cs) : ∀ u ∈ cs, u.oneCell' = true := by
  obtain ⟨vs, rfl, _, _, _, _, h6⟩ := h
  intro u hu
  simp only [List.mem_cons] at hu
  rcases hu with rfl | rfl | rfl | rfl | hu
  · rfl
  · rfl
  · rfl
  · rfl
  · exact h6.oneCell u hu
/-- What the cells of an instruction hold. -/
structure InsD.Has (w : World) (B N : Nat) (x : InsD) (cs vs : List Value) : Prop where
  op : cs[0]? = some (.int .i64 x.op)
  a : cs[1]? = some (.int .i64 x.a)
  b : cs[2]? = some (.int .i64 x.b)
  name : cs[3]? = some (.string x.name)
  nameN : x.name.size ≤ N
  opI : I64 x.op
  aI : I64 x.a
  bI : I64 x.b
  val : ValD.At w B N x.val vs
  cells : ∀ (c : World) (b o : Nat), CellsAt c b o cs → CellsAt c b (o + 4) vs
theorem InsD.At.has (h : InsD.At w B N x cs) : ∃ vs, InsD.Has w B N x cs vs := by
  obtain ⟨vs, rfl, h2, h3, h4, h5, h6⟩ := h
  exact ⟨vs, rfl, rfl, rfl, rfl, h2, h3, h4, h5, h6, fun c b o hc => hc.tail.tail.tail.tail⟩
end
def InssAt (w : World) (B N : Nat) (l : List InsD) (a : Option Addr) : Prop := l = [] ∨ ∃ b o, a = some ⟨b, o, none⟩ ∧ b < B ∧ ∀ i (hi : i < l.length), ∃ cs, CellsAt w b (o + i * 17) cs ∧ InsD.At w B N l[i] cs
theorem InssAt.below {w w' : World} {B N : Nat} {l : List InsD} {a : Option Addr} (h : InssAt w B N l a) (hb : Below B w w') : InssAt w' B N l a := by
  rcases h with h | ⟨b, o, h1, h2, h3⟩
  · exact .inl h
  · refine .inr ⟨b, o, h1, h2, fun i hi => ?_⟩
    obtain ⟨cs, g1, g2⟩ := h3 i hi
    exact ⟨cs, g1.below hb h2, g2.below hb⟩
theorem InssAt.get {w : World} {B N : Nat} {l : List InsD} {a : Option Addr} (h : InssAt w B N l a) {i : Nat} (hi : i < l.length) : ∃ b o, a = some ⟨b, o, none⟩ ∧ b < B ∧ ∃ cs, CellsAt w b (o + i * 17) cs ∧ InsD.At w B N l[i] cs := by
  rcases h with h | ⟨b, o, h1, h2, h3⟩
  · rw [h] at hi; simp at hi
  · exact ⟨b, o, h1, h2, h3 i hi⟩
theorem sizeIns : (Tryd.prog.info? 40).map (·.size) = some 17 := by kernel_rfl
theorem inssE_step {n k : Nat} {l : List InsD} (h : k < l.length) (h0 : insE l[k] n = 0) : inssE n (l.drop k) = inssE n (l.drop (k + 1)) := by
  rw [List.drop_eq_getElem_cons h]
  simp only [inssE]
  rw [if_pos h0]
theorem inssE_stop {n k : Nat} {l : List InsD} (h : k < l.length) (h0 : insE l[k] n ≠ 0) : inssE n (l.drop k) = insE l[k] n := by
  rw [List.drop_eq_getElem_cons h]
  simp only [inssE]
  rw [if_neg h0]
theorem inssE_end {n : Nat} {l : List InsD} : inssE n (l.drop l.length) = 0 := by rw [List.drop_length]; rfl
end Go.Proofs.YtnoddigkafldfaaDoor
