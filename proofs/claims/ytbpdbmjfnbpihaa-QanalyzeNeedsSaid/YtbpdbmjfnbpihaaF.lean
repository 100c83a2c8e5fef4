/- For every selection and every path, Needs reports whether the selection can reach into the value at the path (the law QanalyzeNeeds). No conditions. -/
import Derived.Test.YtbpdbmjfnbpihaaRows
import Derived.Test.YtbpdbmjfnbpihaaE
import Derived.ProofKit
import Derived.OpenShut
import Derived.ShutString
import Derived.ChangeOld
import Derived.Below
import Derived.Carry
import Derived.Deep.Slices
namespace Go.Proofs.Ytbpdbmjfnbpihaa
open Go.ChangeShapes Go.WideShapes Go.ChangeAt Go.RowKit Go.Deep
open Go.ChangeMaps (open_string shut_string)
set_option linter.unusedVariables false

instance : Inhabited StepD := ⟨⟨false, ByteArray.empty, 0⟩⟩
instance : Inhabited SelD := ⟨⟨false, default⟩⟩
theorem own : ownKnob Try.prog.godebug = none := by kernel_rfl
theorem laidOut : laidOutB Try.prog = true := by kernel_rfl
theorem cells3 : Try.prog.cellsOf 3 = 1 := by kernel_rfl
theorem cells4 : Try.prog.cellsOf 4 = 1 := by kernel_rfl
theorem cells9 : Try.prog.cellsOf 9 = 1 := by kernel_rfl
theorem cells43 : Try.prog.cellsOf 43 = 3 := by kernel_rfl
theorem cells46 : Try.prog.cellsOf 46 = 4 := by kernel_rfl

section
variable {H : Type} {enc : TypeId × Value → H} {P : Program} {w : World} {base : Nat} {spare : Nat → Bool} {held : Bool}

theorem struct_parts {t : TypeId} {fs : Array Field} {fuel : Nat} {cs : List Value} {x : DataW H × List MemPlace} (ht : P.underlying t = some (.struct fs)) (h : DataW.trod enc P w base spare held fuel t cs = some x) :
    cs.length = P.cellsOf t ∧ ∃ n, fuel = n + 1 ∧ ∀ (i : Nat) (hi : i < fs.size), ∃ y, DataW.trod enc P w base spare held n fs[i].type ((cs.drop fs[i].offset).take (P.cellsOf fs[i].type)) = some y := by
  obtain ⟨xs, n, hn, _, hlen, hxl, hf⟩ := DataW.trod_struct ht h
  refine ⟨hlen, n, hn, fun i hi => ?_⟩
  have h0 := hf i fs[i] (Array.getElem?_eq_getElem hi)
  rw [List.getElem?_eq_getElem (by omega)] at h0
  exact ⟨_, h0⟩

theorem addr_add (b o j : Nat) : (⟨b, o, none⟩ : Addr).add j = ⟨b, o + j, none⟩ := by unfold Addr.add; split <;> simp_all

/-- The elements of a slice that came in, by their cells. -/
theorem slice_cells {t e : TypeId} {fuel : Nat} {cs : List Value} {x : DataW H × List MemPlace} (ht : P.underlying t = some (.slice e)) (hc : 0 < P.cellsOf e) (h : DataW.trod enc P w base spare held fuel t cs = some x) :
    ∃ a0 len cap, cs = [.slice a0 len cap] ∧ len ≤ maxLen ∧ (len = 0 ∨ ∃ b o n, a0 = some ⟨b, o, none⟩ ∧ fuel = n + 1 ∧ b < w.heap.size ∧
      ∀ i, i < len → ∃ cs y, cs.length = P.cellsOf e ∧ (∀ j, j < P.cellsOf e → w.cell? ⟨b, o + i * P.cellsOf e + j, none⟩ = cs[j]?) ∧ DataW.trod enc P w base spare held n e cs = some y) := by
  rcases DataW.trod_slice ht h with ⟨rfl, _⟩ | ⟨a, len, cap, elems, rest, n, hfu, rfl, _, hb, hl, hm, hlen, hel, _, _⟩
  · exact ⟨none, 0, 0, rfl, by unfold maxLen; omega, .inl rfl⟩
  refine ⟨some a, len, cap, rfl, by omega, ?_⟩
  by_cases hz : len = 0
  · exact .inl hz
  have key : ∀ i, i < len → ∃ cs y, w.cells? base (a.add (i * P.cellsOf e)) (P.cellsOf e) = some cs ∧ DataW.trod enc P w base spare held n e cs = some y := fun i hi => by
    have h1 := hel i hi
    rw [List.getElem?_eq_getElem (by omega)] at h1
    obtain ⟨cs', h2, h3⟩ := Option.bind_eq_some_iff.1 h1
    exact ⟨cs', _, h2, h3⟩
  obtain ⟨cs0, y0, h0, _⟩ := key 0 (by omega)
  obtain ⟨_, hl0, hat0⟩ := World.cells?_some h0
  have hc0 := hat0 0 hc
  rw [List.getElem?_eq_getElem (by omega)] at hc0
  obtain ⟨b, o, spot⟩ := a
  have hs := World.cell?_spot hc0
  have hbk := World.block_lt_of_cell? w _ hc0
  have : spot = none := by simpa [Addr.add] using hs
  subst this
  have hbk' : b < w.heap.size := by simpa [Addr.add] using hbk
  refine .inr ⟨b, o, n, rfl, hfu, hbk', fun i hi => ?_⟩
  obtain ⟨cs1, y1, h1, h2⟩ := key i hi
  obtain ⟨_, hl1, hat1⟩ := World.cells?_some h1
  refine ⟨cs1, y1, hl1, fun j hj => ?_, h2⟩
  have := hat1 j hj
  rwa [addr_add, addr_add] at this
end

section
variable {H : Type} {enc : TypeId × Value → H} {w : World} {base : Nat} {spare : Nat → Bool} {held : Bool}

theorem open_step {fuel : Nat} {cs : List Value} {x : DataW H × List MemPlace} (h : DataW.trod enc Try.prog w base spare held fuel 43 cs = some x) :
    ∃ s : StepD, cs = [.bool s.byIndex, .string s.key, .int .i64 s.index] := by
  obtain ⟨hlen, n, _, hf⟩ := struct_parts Try.underlying43 h
  rw [cells43] at hlen
  match cs, hlen with
  | [c0, c1, c2], _ =>
    obtain ⟨y0, h0⟩ := hf 0 (by decide)
    obtain ⟨y1, h1⟩ := hf 1 (by decide)
    obtain ⟨y2, h2⟩ := hf 2 (by decide)
    simp [cells3, cells4, cells9] at h0 h1 h2
    obtain ⟨b, e0, _⟩ := DataW.trod_bool Try.underlying4 h0
    obtain ⟨s, e1, _⟩ := DataW.trod_string Try.underlying9 h1
    obtain ⟨k, e2, _⟩ := DataW.trod_int Try.underlying3 h2
    simp at e0 e1 e2
    subst e0 e1 e2
    exact ⟨⟨b, s, k⟩, rfl⟩

theorem open_sel {fuel : Nat} {cs : List Value} {x : DataW H × List MemPlace} (h : DataW.trod enc Try.prog w base spare held fuel 46 cs = some x) :
    ∃ s : SelD, cs = [.bool s.each, .bool s.at_.byIndex, .string s.at_.key, .int .i64 s.at_.index] := by
  obtain ⟨hlen, n, _, hf⟩ := struct_parts Try.underlying46 h
  rw [cells46] at hlen
  match cs, hlen with
  | [c0, c1, c2, c3], _ =>
    obtain ⟨y0, h0⟩ := hf 0 (by decide)
    obtain ⟨y1, h1⟩ := hf 1 (by decide)
    simp [cells4, cells43] at h0 h1
    obtain ⟨b, e0, _⟩ := DataW.trod_bool Try.underlying4 h0
    obtain ⟨s, e1⟩ := open_step h1
    simp at e0 e1
    obtain ⟨e1, e2, e3⟩ := e1
    subst e0 e1 e2 e3
    exact ⟨⟨b, s⟩, rfl⟩

theorem open_steps {fuel : Nat} {cs : List Value} {x : DataW H × List MemPlace} (h : DataW.trod enc Try.prog w base spare held fuel 23 cs = some x) :
    ∃ a n c D, cs = [.slice a n c] ∧ IsSteps w a n D := by
  obtain ⟨a0, len, cap, rfl, hm, hz | ⟨b, o, n, rfl, _, hb, hi⟩⟩ := slice_cells Try.underlying23 (by rw [cells43]; omega) h
  · exact ⟨a0, len, cap, fun _ => ⟨false, ByteArray.empty, 0⟩, rfl, hm, .inl hz⟩
  rw [cells43] at hi
  obtain ⟨D, hD⟩ := choose_lt (α := StepD) (p := fun i s => w.cell? ⟨b, o + i * 3, none⟩ = some (.bool s.byIndex) ∧ w.cell? ⟨b, o + i * 3 + 1, none⟩ = some (.string s.key) ∧ w.cell? ⟨b, o + i * 3 + 2, none⟩ = some (.int .i64 s.index)) (n := len) (fun i h => by
    obtain ⟨cs, y, hl, hc, hy⟩ := hi i h
    obtain ⟨s, rfl⟩ := open_step hy
    exact ⟨s, hc 0 (by omega), hc 1 (by omega), hc 2 (by omega)⟩)
  exact ⟨_, len, cap, D, rfl, hm, .inr ⟨b, o, rfl, hb, hD⟩⟩

theorem open_sels {fuel : Nat} {cs : List Value} {x : DataW H × List MemPlace} (h : DataW.trod enc Try.prog w base spare held fuel 22 cs = some x) :
    ∃ a n c D, cs = [.slice a n c] ∧ IsSels w a n D := by
  obtain ⟨a0, len, cap, rfl, hm, hz | ⟨b, o, n, rfl, _, hb, hi⟩⟩ := slice_cells Try.underlying22 (by rw [cells46]; omega) h
  · exact ⟨a0, len, cap, fun _ => ⟨false, false, ByteArray.empty, 0⟩, rfl, hm, .inl hz⟩
  rw [cells46] at hi
  obtain ⟨D, hD⟩ := choose_lt (α := SelD) (p := fun i s => w.cell? ⟨b, o + i * 4, none⟩ = some (.bool s.each) ∧ w.cell? ⟨b, o + i * 4 + 1, none⟩ = some (.bool s.at_.byIndex) ∧ w.cell? ⟨b, o + i * 4 + 2, none⟩ = some (.string s.at_.key) ∧ w.cell? ⟨b, o + i * 4 + 3, none⟩ = some (.int .i64 s.at_.index)) (n := len) (fun i h => by
    obtain ⟨cs, y, hl, hc, hy⟩ := hi i h
    obtain ⟨s, rfl⟩ := open_sel hy
    exact ⟨s, hc 0 (by omega), hc 1 (by omega), hc 2 (by omega), hc 3 (by omega)⟩)
  exact ⟨_, len, cap, D, rfl, hm, .inr ⟨b, o, rfl, hb, hD⟩⟩
end

set_option maxRecDepth 100000 in
theorem lifted3 (os : Os) (started : os.Started) (H : Type) (enc : TypeId × Value → H) :
    ReturnsInHanded {} Try.checked os 3 .any (Rows.qanalyzeNeedsSpec.pre6 enc Try.prog Try.f3 Rows.qanalyzeNeedsRow.domain false) (Rows.qanalyzeNeedsSpec.post enc Try.prog Try.f3 false true false false) := by
  refine returnsInHanded_of_change (C := Try.checked) own started (by kernel_rfl) Try.func3
    (ChangeSpec.witness6 (enc := enc) (C := Try.checked) false ⟨#[], #[.slice none 0 0, .slice none 0 0], []⟩ 8 (by kernel_rfl) (by kernel_rfl) (by kernel_rfl) (by kernel_rfl)) ?_
  intro W base args ds gs before hval0 hW hcnd _
  have hval : ∀ (j : Nat) t v, Try.f3.params[j]? = some t → args[j]? = some v → Value.okWide Try.prog W .any base t v := hval0
  have hW' := hW
  obtain ⟨p, q, hA0, hV, rfl, hfz, hnd⟩ := hW
  have hA : DataW.TrodAll enc Try.prog W 0 (fun _ => true) true Try.f3.params.toList args.toList ds p := hA0
  rw [Try.params3] at hA hval
  obtain ⟨v0, vs0, d0, ds0, p0, q0, hargs, rfl, rfl, h0, r0⟩ := trodAll_cons hA
  obtain ⟨v1, vs1, d1, ds1, p1, q1, rfl, rfl, rfl, h1, r1⟩ := trodAll_cons r0
  obtain ⟨rfl, rfl, rfl⟩ := trodAll_nil r1
  obtain rfl : args = #[v0, v1] := by cases args; simp_all
  obtain ⟨rfl, rfl⟩ := trodVars_none hV
  obtain ⟨a0, len0, cap0, rfl⟩ := okWide_slice Try.underlying22 (hval 0 22 v0 rfl rfl)
  obtain ⟨a1, len1, cap1, rfl⟩ := okWide_slice Try.underlying23 (hval 1 23 v1 rfl rfl)
  have k0 := h0
  have k1 := h1
  have lt0 : ∀ x ∈ p0, x.block < W.heap.size := by obtain ⟨m, hm⟩ := k0; exact DataW.trod_lt m _ _ _ hm
  have lt1 : ∀ x ∈ p1, x.block < W.heap.size := by obtain ⟨m, hm⟩ := k1; exact DataW.trod_lt m _ _ _ hm
  obtain ⟨D0, w0⟩ : ∃ D, IsSels W a0 len0 D := by
    obtain ⟨fuel, hf⟩ := h0
    obtain ⟨a, n, c, D, hcs, h⟩ := open_sels hf
    simp [Value.cells] at hcs
    obtain ⟨rfl, rfl, rfl⟩ := hcs
    exact ⟨D, h⟩
  obtain ⟨D1, w1⟩ : ∃ D, IsSteps W a1 len1 D := by
    obtain ⟨fuel, hf⟩ := h1
    obtain ⟨a, n, c, D, hcs, h⟩ := open_steps hf
    simp [Value.cells] at hcs
    obtain ⟨rfl, rfl, rfl⟩ := hcs
    exact ⟨D, h⟩
  clear hA0 hval0
  refine (law3 W a0 a1 len0 cap0 len1 cap1 D0 D1 w0 w1).mono fun e W' ⟨he, bel⟩ => ?_
  subst he
  exact ⟨_, rfl, _, _, _, [], _, [], hW', trodAll_mk1 (shut_bool Try.underlying4 _), (trodAll_cons_mk (Below.trod laidOut (by kernel_rfl) (of_decide_eq_true (by kernel_rfl)) k0 bel lt0) (trodAll_cons_mk (Below.trod laidOut (by kernel_rfl) (of_decide_eq_true (by kernel_rfl)) k1 bel lt1) trodAll_mk0)), rfl, bel.frame _, fun h => by cases h⟩

theorem qanalyzeNeeds_holds : Rows.QanalyzeNeedsSaid :=
  OpenClaim.holds_of_wide 3 Try.f3 rfl rfl rfl rfl rfl rfl rfl ⟨rfl, rfl, rfl, rfl, rfl⟩ rfl rfl rfl rfl rfl (by kernel_rfl) Try.func3 (by kernel_rfl)
    (of_decide_eq_true (by kernel_rfl)) (by unfold Func.isWrapper; first | (rw [if_pos (by decide +kernel)]; kernel_rfl) | (rw [if_neg (by decide +kernel)]; exact ⟨rfl, rfl⟩))
    (fun os started H enc _ => lifted3 os started H enc)
#print axioms qanalyzeNeeds_holds
end Go.Proofs.Ytbpdbmjfnbpihaa
