/- From the model's reading of an argument to the trees: expressions and functions. -/
import Derived.Test.YtbpdbmjfnbpihaaOpen
namespace Go.Proofs.Ytbpdbmjfnbpihaa
open Go.ChangeShapes Go.WideShapes Go.ChangeAt Go.RowKit Go.Deep

theorem cellsE : Try.prog.cellsOf 38 = 17 := by kernel_rfl
theorem cellsSE : Try.prog.cellsOf 35 = 1 := by kernel_rfl
theorem cellsSFN : Try.prog.cellsOf 36 = 1 := by kernel_rfl
theorem cellsFN : Try.prog.cellsOf 57 = 19 := by kernel_rfl
theorem cellsSP : Try.prog.cellsOf 55 = 1 := by kernel_rfl
theorem cellsPAR : Try.prog.cellsOf 68 = 2 := by kernel_rfl

section
variable {H : Type} {enc : TypeId × Value → H} {w : World} {base : Nat} {spare : Nat → Bool} {held : Bool}

theorem ParamsAt_of {B N b : Nat} (hb : b < B) : ∀ (l : List ParD) (o : Nat), (∀ i (hi : i < l.length), l[i].name.size ≤ N ∧ CellsAt w b (o + i * 2) l[i].cells) → ParamsAt w B N l (some ⟨b, o, none⟩)
  | [], _, _ => trivial
  | p :: r, o, h => by
    obtain ⟨h1, h2⟩ := h 0 (by simp)
    refine ⟨b, o, rfl, hb, h1, by simpa using h2, ParamsAt_of hb r (o + 2) fun i hi => ?_⟩
    obtain ⟨h1, h2⟩ := h (i + 1) (by simpa using hi)
    exact ⟨h1, by rw [show o + 2 + i * 2 = o + (i + 1) * 2 by omega]; exact h2⟩
theorem ExprsAt_of {B N b : Nat} (hb : b < B) : ∀ (l : List ExprD) (o : Nat), (∀ i (hi : i < l.length), ∃ cs, CellsAt w b (o + i * 17) cs ∧ ExprD.At w B N l[i] cs) → ExprsAt w B N l (some ⟨b, o, none⟩)
  | [], _, _ => trivial
  | v :: r, o, h => by
    obtain ⟨cs, h1, h2⟩ := h 0 (by simp)
    refine ⟨⟨b, o, cs, rfl, hb, by simpa using h1, h2⟩, ExprsAt_of hb r (o + 17) fun i hi => ?_⟩
    obtain ⟨cs, h1, h2⟩ := h (i + 1) (by simpa using hi)
    exact ⟨cs, by rw [show o + 17 + i * 17 = o + (i + 1) * 17 by omega]; exact h1, h2⟩
theorem FuncsAt_of {B N b : Nat} (hb : b < B) : ∀ (l : List FuncD) (o : Nat), (∀ i (hi : i < l.length), ∃ cs, CellsAt w b (o + i * 19) cs ∧ FuncD.At w B N l[i] cs) → FuncsAt w B N l (some ⟨b, o, none⟩)
  | [], _, _ => trivial
  | v :: r, o, h => by
    obtain ⟨cs, h1, h2⟩ := h 0 (by simp)
    refine ⟨⟨b, o, cs, rfl, hb, by simpa using h1, h2⟩, FuncsAt_of hb r (o + 19) fun i hi => ?_⟩
    obtain ⟨cs, h1, h2⟩ := h (i + 1) (by simpa using hi)
    exact ⟨cs, by rw [show o + 19 + i * 19 = o + (i + 1) * 19 by omega]; exact h1, h2⟩

theorem open_SP {N fuel : Nat} {cs : List Value} {x : DataW H × List MemPlace} (h : DataW.trod enc Try.prog w base spare held fuel 55 cs = some x) (hx : Fits N x.1) : ∃ a c l, cs = [.slice a (List.length l) c] ∧ l.length ≤ N ∧ ParamsAt w w.heap.size N l a := by
  obtain ⟨a0, len, cap, rfl, hN, hm, hz | ⟨b, o, n, rfl, _, hb, hi⟩⟩ := slice_cells Try.underlying55 (by rw [cellsPAR]; omega) h hx
  · exact ⟨a0, cap, [], by simp [hz], by simp, trivial⟩
  rw [cellsPAR] at hi
  obtain ⟨l, hl, hp⟩ := list_of_forall (α := ParD) (n := len) (p := fun i p => p.name.size ≤ N ∧ CellsAt w b (o + i * 2) p.cells) (fun i h => by
    obtain ⟨cs, y, hl, hc, hy, hf⟩ := hi i h
    obtain ⟨_, m', _, hg⟩ := struct_parts Try.underlying68 hy hf
    obtain ⟨z0, g0, q0⟩ := hg 0 (by decide)
    obtain ⟨z1, g1, q1⟩ := hg 1 (by decide)
    match cs, hl with
    | [c0, c1], _ =>
      simp [cellsS, cellsB] at g0 g1
      obtain ⟨s, e0, ks⟩ := open_S g0 q0
      obtain ⟨v, e1⟩ := open_B g1 q1
      simp at e0 e1
      subst e0 e1
      exact ⟨⟨s, v⟩, ks, hc⟩)
  exact ⟨_, cap, l, by rw [hl], by omega, ParamsAt_of hb l o hp⟩

theorem open_E_FN {N : Nat} : ∀ (fuel : Nat), (∀ {cs : List Value} {x : DataW H × List MemPlace}, DataW.trod enc Try.prog w base spare held fuel 38 cs = some x → Fits N x.1 → ∃ e, ExprD.At w w.heap.size N e cs) ∧
    (∀ {cs : List Value} {x : DataW H × List MemPlace}, DataW.trod enc Try.prog w base spare held fuel 57 cs = some x → Fits N x.1 → ∃ f, FuncD.At w w.heap.size N f cs) := by
  intro fuel
  induction fuel using Nat.strongRecOn with
  | ind fuel ih =>
  constructor
  · intro cs x h hx
    obtain ⟨hlen, n, hn, hf⟩ := struct_parts Try.underlying38 h hx
    rw [cellsE] at hlen
    match cs, hlen with
    | [c0, c1, d0, d1, d2, d3, d4, d5, d6, d7, d8, d9, d10, d11, d12, c3, c4], _ =>
      obtain ⟨y0, h0, f0⟩ := hf 0 (by decide)
      obtain ⟨y1, h1, f1⟩ := hf 1 (by decide)
      obtain ⟨y2, h2, f2⟩ := hf 2 (by decide)
      obtain ⟨y3, h3, f3⟩ := hf 3 (by decide)
      obtain ⟨y4, h4, f4⟩ := hf 4 (by decide)
      simp [cellsI, cellsS, cellsV, cellsSE, cellsSFN] at h0 h1 h2 h3 h4
      obtain ⟨k, e0, k0⟩ := open_I h0 f0
      obtain ⟨s, e1, k1⟩ := open_S h1 f1
      obtain ⟨v, k2⟩ := open_V _ h2 f2
      have L : ∃ la lc l, [c3] = [Value.slice la (List.length l) lc] ∧ l.length ≤ N ∧ ExprsAt w w.heap.size N l la := by
        obtain ⟨a0, len, cap, e, hN, _, hz | ⟨b, o, m, rfl, hm, hb, hi⟩⟩ := slice_cells Try.underlying35 (by rw [cellsE]; omega) h3 f3
        · exact ⟨a0, cap, [], by rw [e, hz]; rfl, by simp, trivial⟩
        rw [cellsE] at hi
        obtain ⟨l, hl, hp⟩ := list_of_forall (α := ExprD) (n := len) (p := fun i v => ∃ cs, CellsAt w b (o + i * 17) cs ∧ ExprD.At w w.heap.size N v cs) (fun i h => by
          obtain ⟨cs, y, _, hc, hy, hf⟩ := hi i h
          obtain ⟨v, hv⟩ := (ih m (by omega)).1 hy hf
          exact ⟨v, cs, hc, hv⟩)
        exact ⟨_, cap, l, by rw [e, hl], by omega, ExprsAt_of hb l o hp⟩
      have F : ∃ la lc l, [c4] = [Value.slice la (List.length l) lc] ∧ l.length ≤ N ∧ FuncsAt w w.heap.size N l la := by
        obtain ⟨a0, len, cap, e, hN, _, hz | ⟨b, o, m, rfl, hm, hb, hi⟩⟩ := slice_cells Try.underlying36 (by rw [cellsFN]; omega) h4 f4
        · exact ⟨a0, cap, [], by rw [e, hz]; rfl, by simp, trivial⟩
        rw [cellsFN] at hi
        obtain ⟨l, hl, hp⟩ := list_of_forall (α := FuncD) (n := len) (p := fun i v => ∃ cs, CellsAt w b (o + i * 19) cs ∧ FuncD.At w w.heap.size N v cs) (fun i h => by
          obtain ⟨cs, y, _, hc, hy, hf⟩ := hi i h
          obtain ⟨v, hv⟩ := (ih m (by omega)).2 hy hf
          exact ⟨v, cs, hc, hv⟩)
        exact ⟨_, cap, l, by rw [e, hl], by omega, FuncsAt_of hb l o hp⟩
      obtain ⟨la, lc, l, e3, k3, k3'⟩ := L
      obtain ⟨fa, fc, f, e4, k4, k4'⟩ := F
      simp at e0 e1 e3 e4
      subst e0 e1 e3 e4
      exact ⟨.mk k s v l f, [d0, d1, d2, d3, d4, d5, d6, d7, d8, d9, d10, d11, d12], la, fa, lc, fc, rfl, ⟨k0, k1, k3, k4⟩, k2, k3', k4'⟩
  · intro cs x h hx
    obtain ⟨hlen, n, hn, hf⟩ := struct_parts Try.underlying57 h hx
    rw [cellsFN] at hlen
    obtain ⟨y0, h0, f0⟩ := hf 0 (by decide)
    obtain ⟨y1, h1, f1⟩ := hf 1 (by decide)
    obtain ⟨y2, h2, f2⟩ := hf 2 (by decide)
    match cs, hlen with
    | c0 :: c1 :: es, hlen =>
      have hl' : es.length = 17 := by simpa using hlen
      simp [cellsS, cellsSP, cellsE] at h0 h1 h2
      rw [List.take_of_length_le (by omega)] at h2
      obtain ⟨s, e0, k0⟩ := open_S h0 f0
      obtain ⟨pa, pc, ps, e1, k1, k1'⟩ := open_SP h1 f1
      obtain ⟨e, k2⟩ := (ih n (by omega)).1 h2 f2
      simp at e0 e1
      subst e0 e1
      exact ⟨.mk s ps e, pa, pc, es, rfl, k0, k1, k1', k2⟩
end
end Go.Proofs.Ytbpdbmjfnbpihaa
