/- A set of strings that a call keeps in a map of its own, from strings to booleans, all of them true. -/
import Derived.Test.YtnoddigkafldfaaDoorProg
import Derived.Maps.OwnOps
import Derived.Maps.OwnSet
import Derived.Maps.Views
import Derived.Below
namespace Go.Proofs.YtnoddigkafldfaaDoor
open Go.RowKit Go.Maps

/-- Block b of w is a map of at most n entries, in which just the strings of l are true. -/
def SetAt (w : World) (K E : TypeId) (b n : Nat) (l : List (List UInt8)) : Prop :=
  ∃ D : DataW Unit, w.ownsMap Tryd.prog K (plainElem Tryd.prog E) b n D ∧ IsMap D ∧ ∀ s : List UInt8, D.atKey (.string s) (.lit (.bool false)) = .lit (.bool (decide (s ∈ l)))
theorem SetAt.made (w : World) (K E : TypeId) : SetAt (w.alloc (.map #[] 0)) K E w.heap.size 0 [] :=
  ⟨.map [], World.ownsMap_made _ _ _ _, isMap_empty, fun s => by simp [DataW.atKey]⟩
theorem SetAt.mono {w : World} {K E : TypeId} {b n n' : Nat} {l : List (List UInt8)} (h : SetAt w K E b n l) (hn : n ≤ n') : SetAt w K E b n' l := by
  obtain ⟨D, h1, h2, h3⟩ := h
  exact ⟨D, h1.mono hn, h2, h3⟩
theorem SetAt.lt {w : World} {K E : TypeId} {b n : Nat} {l : List (List UInt8)} (h : SetAt w K E b n l) : b < w.heap.size := by
  obtain ⟨D, h1, h2, h3⟩ := h
  exact h1.lt
theorem SetAt.block {w w' : World} {K E : TypeId} {b n : Nat} {l : List (List UInt8)} (h : SetAt w K E b n l) (hb : w'.heap[b]? = w.heap[b]?) : SetAt w' K E b n l := by
  obtain ⟨D, ⟨es, clock, hh, r⟩, h2, h3⟩ := h
  exact ⟨D, ⟨es, clock, hb.trans hh, r⟩, h2, h3⟩
theorem SetAt.below {w w' : World} {K E : TypeId} {b n B : Nat} {l : List (List UInt8)} (h : SetAt w K E b n l) (hb : Below B w w') (hlt : b < B) : SetAt w' K E b n l := h.block (hb.block b hlt)
theorem SetAt.later {w w' : World} {K E : TypeId} {b n : Nat} {l : List (List UInt8)} (h : SetAt w K E b n l) (hb : Below w.heap.size w w') : SetAt w' K E b n l := h.below hb h.lt

theorem plainElem_bool_inv {H : Type} {P : Program} {e : TypeId} (he : P.underlying e = some .bool) {v : Value} {z : DataW H × List MemPlace} (h : plainElem P e v = some z) : ∃ a, v = .bool a ∧ z = (.lit (.bool a), []) := by
  unfold plainElem at h
  rw [he] at h
  cases v <;> simp at h
  exact ⟨_, rfl, h.symm⟩
theorem keyOf_str {P : Program} {k : TypeId} (hk : P.underlying k = some .string) {s : ByteArray} (hs : s.size ≤ maxLen) : keyOf P k (.string s) = some (.string s.data.toList) := by
  first
    | exact keyOf_string_mk hk hs
    | simp [keyOf, mapKey, hk, hs]
theorem SetAt.look {w : World} {K E t : TypeId} {b n : Nat} {l : List (List UInt8)} (h : SetAt w K E b n l) (hK : Tryd.prog.underlying K = some .string) (hE : Tryd.prog.underlying E = some .bool) (ht : Tryd.prog.underlying t = some (.map K E))
    (hz : (zeroValue E).run Tryd.prog w = .ok (.bool false) w) {s : ByteArray} (hs : s.size ≤ maxLen) : (Instr.lookup t (.map (some b)) (.string s) false).run Tryd.prog w = .ok (.bool (decide (s.data.toList ∈ l))) w := by
  obtain ⟨D, h1, h2, h3⟩ := h
  obtain ⟨v, ps, hrun, hv⟩ := h1.lookup (string_keyed hK) ht hz (plainElem_bool hE false) (keyOf_str hK hs)
  rw [h3] at hv
  obtain ⟨c, rfl, e⟩ := plainElem_bool_inv hE hv
  simp at e
  rw [hrun, e.1]
theorem wpList_look_set {w : World} {ops : Array Oper} {rest : List Oper} {o : Oper} {a : Act} {Q : Exit → Act → World → Prop} (hg : o.guard = none) (m x : Operand) (t : TypeId) (hop : o.op = Op.lookup t m x false)
    {K E : TypeId} {b n : Nat} {l : List (List UInt8)} (hK : Tryd.prog.underlying K = some .string) (hE : Tryd.prog.underlying E = some .bool) (ht : Tryd.prog.underlying t = some (.map K E)) (hz : (zeroValue E).run Tryd.prog w = .ok (.bool false) w)
    (hm : a.eval m = .map (some b)) (h : SetAt w K E b n l) (s : ByteArray) (hx : a.eval x = .string s) (hs : s.size ≤ maxLen) (c : Bool) (hc : decide (s.data.toList ∈ l) = c)
    (hk : wpList Tryd.prog ops Q rest (a.put o.dst (.bool c)) w) : wpList Tryd.prog ops Q (o :: rest) a w := by
  refine wpList_plain hg fun K' hK' => ?_
  have hrun := h.look hK hE ht hz hs
  rw [hc] at hrun
  unfold Oper.wp
  simp [execOp, hop, hm, hx, hrun, Result.andThen]
  exact hK' _ _ hk
theorem isKeyLit_string (s : List UInt8) : WideAt.IsKeyLit (.string s) := by
  first | trivial | simp [WideAt.IsKeyLit] | exact ⟨_, rfl⟩
theorem wpList_put_set {w : World} {ops : Array Oper} {rest : List Oper} {o : Oper} {a : Act} {Q : Exit → Act → World → Prop} (hg : o.guard = none) (m x v : Operand) (t : TypeId) (hop : o.op = Op.mapUpdate t m x v)
    {K E : TypeId} {b n : Nat} {l : List (List UInt8)} (hK : Tryd.prog.underlying K = some .string) (hE : Tryd.prog.underlying E = some .bool) (ht : Tryd.prog.underlying t = some (.map K E))
    (hm : a.eval m = .map (some b)) (h : SetAt w K E b n l) (hn : n < maxLen) (s : ByteArray) (hx : a.eval x = .string s) (hv : a.eval v = .bool true) (hs : s.size ≤ maxLen)
    (hk : ∀ w', SetAt w' K E b (n + 1) (l ++ [s.data.toList]) → w.grownBy w' (some b) → wpList Tryd.prog ops Q rest (a.put o.dst undef) w') : wpList Tryd.prog ops Q (o :: rest) a w := by
  obtain ⟨D, h1, h2, h3⟩ := h
  refine wpList_mapUpdate_own w hg m x v t hop K E (string_keyed hK) ht _ b n D hm h1 hn _ _ (.string s.data.toList) hx hv (keyOf_str hK hs) _ [] (plainElem_bool hE true) (fun w' r1 r2 => hk w' ⟨_, r1, h2.put _ _, fun q => ?_⟩ r2)
  by_cases hq : q = s.data.toList
  · subst hq
    rw [atKey_put_same h2 (isKeyLit_string _)]
    simp
  · rw [atKey_put_other (by simpa using hq), h3]
    simp [hq]
end Go.Proofs.YtnoddigkafldfaaDoor
