/- Free variables of an expression: plain functions and their laws. No program here. -/
import Derived.Test.YtfegnmbdgdjkgaaGreatSiz36
import Derived.Test.YtfegnmbdgdjkgaaGreatZro
namespace Go.Proofs.YtfegnmbdgdjkgaaGreat
open Go.RowKit

def pvars (l : List ParD) : List ByteArray := (l.filter (·.value)).map (·.name)
def memB (l : List ByteArray) (s : ByteArray) : Bool := l.any fun t => t.toList == s.toList
/-- What the scope of the i-th argument has besides. -/
def innV (op : Int) (nm : ByteArray) (i : Nat) : List ByteArray := if (op = 22 ∧ i = 1) ∨ (op = 19 ∧ i = 2) ∨ (op = 20 ∧ 2 ≤ i) then [nm] else []
def ndV (e : ExprD) (vs : List ByteArray) : List ByteArray := if e.op = 4 ∧ memB vs e.name = false then [e.name] else []
/-- Those of the first k functions, and of the first k arguments. -/
def frF (f : ExprD → List ByteArray → List ByteArray) (e : ExprD) (vs : List ByteArray) (k : Nat) : List ByteArray := (e.funcs.take k).flatMap fun u => f u.body (vs ++ pvars u.params)
def frA (f : ExprD → List ByteArray → List ByteArray) (e : ExprD) (vs : List ByteArray) (k : Nat) : List ByteArray := (List.range k).flatMap fun i => f (e.args.getD i default) (vs ++ innV e.op e.name i)
/-- The variables that are free in an expression, one by one as they come; these are in scope. -/
def frE : Nat → ExprD → List ByteArray → List ByteArray
  | 0, e, vs => ndV e vs
  | m + 1, e, vs => ndV e vs ++ frF (frE m) e vs e.funcs.length ++ frA (frE m) e vs e.args.length
theorem frF_0 (f : ExprD → List ByteArray → List ByteArray) (e : ExprD) (vs : List ByteArray) : frF f e vs 0 = [] := rfl
theorem frA_0 (f : ExprD → List ByteArray → List ByteArray) (e : ExprD) (vs : List ByteArray) : frA f e vs 0 = [] := rfl
theorem frF_step (f : ExprD → List ByteArray → List ByteArray) (e : ExprD) (vs : List ByteArray) {k : Nat} (h : k < e.funcs.length) : frF f e vs (k + 1) = frF f e vs k ++ f e.funcs[k].body (vs ++ pvars e.funcs[k].params) := by
  unfold frF
  rw [← List.take_append_getElem h, List.flatMap_append]
  simp
theorem frA_step (f : ExprD → List ByteArray → List ByteArray) (e : ExprD) (vs : List ByteArray) {k : Nat} (h : k < e.args.length) : frA f e vs (k + 1) = frA f e vs k ++ f e.args[k] (vs ++ innV e.op e.name k) := by
  unfold frA
  rw [List.range_succ, List.flatMap_append]
  simp only [List.flatMap_cons, List.flatMap_nil, List.append_nil, List.getD_eq_getElem?_getD, List.getElem?_eq_getElem h, Option.getD_some]
theorem pvars_step (l : List ParD) {k : Nat} (h : k < l.length) : pvars (l.take (k + 1)) = pvars (l.take k) ++ (if l[k].value then [l[k].name] else []) := by
  unfold pvars
  rw [← List.take_append_getElem h, List.filter_append, List.map_append]
  congr 1
  cases hv : l[k].value <;> simp [hv]
theorem pvars_all (l : List ParD) : pvars (l.take l.length) = pvars l := by rw [List.take_length]
theorem pvars_le (l : List ParD) : (pvars l).length ≤ l.length := by
  unfold pvars
  rw [List.length_map]
  exact List.length_filter_le _ _
theorem innV_le (op : Int) (nm : ByteArray) (i : Nat) : (innV op nm i).length ≤ 1 := by
  unfold innV; split <;> simp

/-! ### A sorted list -/
def insR : List ByteArray → ByteArray → List ByteArray
  | [], s => [s]
  | x :: r, s => if x.data.toList < s.data.toList then x :: insR r s else if x.data.toList = s.data.toList then x :: r else s :: x :: r
theorem insR_mem (l : List ByteArray) (s : ByteArray) (y : List UInt8) : y ∈ (insR l s).map (·.data.toList) ↔ y = s.data.toList ∨ y ∈ l.map (·.data.toList) := by
  induction l with
  | nil => simp [insR]
  | cons x r ih =>
    unfold insR
    split
    · rw [List.map_cons, List.mem_cons, ih, List.map_cons, List.mem_cons]
      constructor
      · rintro (h | h | h)
        · exact .inr (.inl h)
        · exact .inl h
        · exact .inr (.inr h)
      · rintro (h | h | h)
        · exact .inr (.inl h)
        · exact .inl h
        · exact .inr (.inr h)
    · split
      · rename_i h
        rw [List.map_cons, List.mem_cons, h]
        constructor
        · exact fun h => .inr h
        · rintro (h | h)
          · exact .inl h
          · exact h
      · simp
theorem list_lt {a b : List UInt8} (h : ¬ a < b) (hn : a ≠ b) : b < a := by
  rcases Classical.em (b < a) with h1 | h1
  · exact h1
  · exact absurd (List.le_antisymm (List.not_lt.1 h1) (List.not_lt.1 h)) hn
theorem insR_sorted (l : List ByteArray) (s : ByteArray) (h : (l.map (·.data.toList)).Pairwise (· < ·)) : ((insR l s).map (·.data.toList)).Pairwise (· < ·) := by
  induction l with
  | nil => simp [insR]
  | cons x r ih =>
    rw [List.map_cons, List.pairwise_cons] at h
    unfold insR
    split
    · rename_i hx
      rw [List.map_cons, List.pairwise_cons]
      refine ⟨fun y hy => ?_, ih h.2⟩
      rcases (insR_mem r s y).1 hy with rfl | hy
      · exact hx
      · exact h.1 y hy
    · split
      · rw [List.map_cons, List.pairwise_cons]; exact h
      · rename_i h1 h2
        have hs := list_lt h1 h2
        rw [List.map_cons, List.pairwise_cons, List.map_cons, List.pairwise_cons]
        refine ⟨fun y hy => ?_, h⟩
        rcases List.mem_cons.1 hy with rfl | hy
        · exact hs
        · exact List.lt_trans hs (h.1 y hy)
/-- Where it is laid in. -/
theorem insR_at (l : List ByteArray) (s : ByteArray) : ∀ k, k ≤ l.length → (∀ j (hj : j < l.length), j < k → l[j].data.toList < s.data.toList) → (∀ h : k < l.length, ¬ l[k].data.toList < s.data.toList) →
    insR l s = if h : k < l.length then (if l[k].data.toList = s.data.toList then l else l.take k ++ s :: l.drop k) else l ++ [s] := by
  induction l with
  | nil => intro k hk _ _; simp [insR]
  | cons x r ih =>
    intro k hk hb hn
    cases k with
    | zero =>
      have h0 := hn (by simp)
      simp only [List.getElem_cons_zero] at h0
      unfold insR
      rw [if_neg h0]
      simp
    | succ k =>
      have h0 := hb 0 (by simp) (by omega)
      simp only [List.getElem_cons_zero] at h0
      unfold insR
      rw [if_pos h0, ih k (by simpa using hk) (fun j hj hjk => by have h := hb (j + 1) (by simpa using hj) (by omega); rw [List.getElem_cons_succ] at h; exact h) (fun h => by have h2 := hn (by simpa using h); rw [List.getElem_cons_succ] at h2; exact h2)]
      by_cases hl : k < r.length
      · rw [dif_pos hl, dif_pos (by simpa using hl)]
        simp only [List.getElem_cons_succ]
        split
        · rfl
        · simp
      · rw [dif_neg hl, dif_neg (by simpa using hl)]
        rfl
def insAll (l : List ByteArray) (L : List ByteArray) : List ByteArray := L.foldl insR l
theorem insAll_nil (l : List ByteArray) : insAll l [] = l := rfl
theorem insAll_append (l L M : List ByteArray) : insAll l (L ++ M) = insAll (insAll l L) M := by unfold insAll; rw [List.foldl_append]
theorem insAll_one (l : List ByteArray) (s : ByteArray) : insAll l [s] = insR l s := rfl
theorem insAll_mem (L : List ByteArray) : ∀ (l : List ByteArray) (y : List UInt8), y ∈ (insAll l L).map (·.data.toList) ↔ y ∈ L.map (·.data.toList) ∨ y ∈ l.map (·.data.toList) := by
  induction L with
  | nil => intro l y; simp [insAll]
  | cons s r ih =>
    intro l y
    show y ∈ (insAll (insR l s) r).map (·.data.toList) ↔ _
    rw [ih, insR_mem, List.map_cons, List.mem_cons]
    constructor
    · rintro (h | h | h)
      · exact .inl (.inr h)
      · exact .inl (.inl h)
      · exact .inr h
    · rintro ((h | h) | h)
      · exact .inr (.inl h)
      · exact .inl h
      · exact .inr (.inr h)
theorem insAll_sorted (L : List ByteArray) : ∀ (l : List ByteArray), (l.map (·.data.toList)).Pairwise (· < ·) → ((insAll l L).map (·.data.toList)).Pairwise (· < ·) := by
  induction L with
  | nil => intro l h; exact h
  | cons s r ih => intro l h; exact ih _ (insR_sorted l s h)
theorem insR_len (l : List ByteArray) (s : ByteArray) : (insR l s).length ≤ l.length + 1 := by
  induction l with
  | nil => simp [insR]
  | cons x r ih =>
    unfold insR
    split
    · simp only [List.length_cons]; omega
    · split <;> simp
/-- A sorted list of the same strings is the same list. -/
theorem sorted_same {l m : List (List UInt8)} (h1 : l.Pairwise (· < ·)) (h2 : m.Pairwise (· ≤ ·)) (hn : m.Nodup) (hm : ∀ y, y ∈ m ↔ y ∈ l) : l = m := by
  have hl : l.Nodup := h1.imp fun {a b} h e => by subst e; exact List.lt_irrefl _ h
  refine List.Perm.eq_of_pairwise (le := fun a b => a ≤ b) (fun a b _ _ h3 h4 => List.le_antisymm h3 h4) (h1.imp fun {a b} h => List.le_of_lt h) h2 ?_
  exact (List.perm_ext_iff_of_nodup hl hn).2 fun y => (hm y).symm

/-! ### What the check of expressions says besides -/
def qdE (e : ExprD) : Prop := (e.op = 19 → e.args.length ≤ 3) ∧ e.val.bytes = [] ∧ e.val.list = [] ∧ e.val.fields = []
def gdE : Nat → ExprD → Prop
  | 0, e => qdE e ∧ e.args = [] ∧ e.funcs = []
  | m + 1, e => qdE e ∧ (∀ a ∈ e.args, gdE m a) ∧ ∀ f ∈ e.funcs, gdE m f.body
theorem gdE_leaf (m : Nat) {e : ExprD} (hq : qdE e) (ha : e.args = []) (hf : e.funcs = []) : gdE m e := by
  cases m with
  | zero => exact ⟨hq, ha, hf⟩
  | succ m => exact ⟨hq, by rw [ha]; simp, by rw [hf]; simp⟩
theorem gdE_q {m : Nat} {e : ExprD} (h : gdE m e) : qdE e := by
  cases m with
  | zero => exact h.1
  | succ m => exact h.1
theorem zero_parts {v : ValD} (h : zeroB v = true) : v.bytes = [] ∧ v.list = [] ∧ v.fields = [] := by
  obtain ⟨_, _, _, _, _, h5, h6, h7⟩ := of_decide_eq_true h
  exact ⟨List.length_eq_zero_iff.1 h5, List.length_eq_zero_iff.1 h6, List.length_eq_zero_iff.1 h7⟩
theorem chk_own {v : ValD} (h : chkD v = 0) : ownB v = true := by
  cases ho : ownB v
  · exfalso
    have h1 : (lookD 48 v 0).2 = 0 := h
    rw [show lookD 48 v 0 = (if 65536 ≤ (0 : Int) then (0, 10) else if oneE v = 0 then kidsL (lookD 47) (kidsD v) (0 + 1) else (0, oneE v)) from rfl, if_neg (by decide), oneE_6 ho, if_neg (by decide)] at h1
    exact absurd h1 (by decide)
  · rfl
theorem lit_parts {v : ValD} (h : chkD v = 0) (hl : litB v = true) : v.bytes = [] ∧ v.list = [] ∧ v.fields = [] := by
  obtain ⟨_, _, _, _, _, _, h5, h6, h7⟩ := of_decide_eq_true (chk_own h)
  have hk := of_decide_eq_true hl
  exact ⟨List.length_eq_zero_iff.1 (h5 (by omega)), List.length_eq_zero_iff.1 (h6 (by omega)), List.length_eq_zero_iff.1 (h7 (by omega))⟩
theorem form_qd {e : ExprD} (hf : formB e = true) (hc : e.op = 3 → chkD e.val = 0) : qdE e := by
  obtain ⟨_, _, hn, _, _, _, _, _, hz, _, _, hl, _⟩ := of_decide_eq_true hf
  refine ⟨fun h => ?_, ?_⟩
  · have := hn (by rw [h]; decide)
    rw [h] at this
    have h3 : numE 19 = 3 := by decide
    omega
  · by_cases h3 : e.op = 3
    · exact lit_parts (hc h3) (hl h3)
    · rcases hz with hz | hz
      · exact absurd hz h3
      · exact zero_parts hz
theorem abs_qd {x : ExprD} (h : formB x = true) {u : ExprD} (hu : u ∈ x.args) (ho : u.op = 30) : qdE u := by
  obtain ⟨_, _, _, _, _, ha, _⟩ := of_decide_eq_true h
  obtain ⟨i, hi, rfl⟩ := List.getElem_of_mem hu
  unfold argsB at ha
  rw [List.all_eq_true] at ha
  have h1 := of_decide_eq_true (ha i (by simpa using hi))
  simp only [List.getD_eq_getElem?_getD, List.getElem?_eq_getElem hi, Option.getD_some] at h1
  obtain ⟨_, h2⟩ := h1 ho
  obtain ⟨_, _, hz, _, _⟩ := of_decide_eq_true h2
  exact ⟨fun h => by omega, zero_parts hz⟩
theorem look_good (idB : ByteArray → Bool) (rgB : ExprD → Bool) : ∀ (m : Nat) (x : ExprD) (s y : Int), lookE idB rgB (m + 1) x s = (y, 0) → gdE m x := by
  intro m
  induction m with
  | zero =>
    intro x s y h
    obtain ⟨ha, hf⟩ := (look_done idB rgB 0 x s y h).1
    refine ⟨?_, ha, hf⟩
    rw [lookE] at h
    split at h
    · simp at h
    split at h
    · simp at h
    split at h
    · rename_i hc; simp at h; exact absurd h.2 hc.2
    rename_i hfb hc
    exact form_qd (by simpa using hfb) (fun h3 => by
      rcases Classical.em (chkD x.val = 0) with h4 | h4
      · exact h4
      · exact absurd ⟨h3, h4⟩ hc)
  | succ m ih =>
    intro x s y h'
    rw [lookE] at h'
    split at h'
    · simp at h'
    split at h'
    · simp at h'
    split at h'
    · rename_i hc; simp at h'; exact absurd h'.2 hc.2
    split at h'
    · simp at h'
    split at h'
    · simp at h'
    split at h'
    · rename_i hh; rw [h'] at hh; exact absurd rfl hh
    · rename_i hfb hc _ _ h2
      have hfb' : formB x = true := by simpa using hfb
      have hq : qdE x := form_qd hfb' (fun h3 => by
        rcases Classical.em (chkD x.val = 0) with h4 | h4
        · exact h4
        · exact absurd ⟨h3, h4⟩ hc)
      have h3 := Classical.not_not.1 h2
      obtain ⟨p, q, hpq⟩ : ∃ p q, funsE idB (lookE idB rgB (m + 1)) [] x.funcs (s + 1) = (p, q) := ⟨_, _, rfl⟩
      rw [hpq] at h3 h'
      obtain rfl : q = 0 := h3
      have ih2 : ∀ x s y, lookE idB rgB (m + 1) x s = (y, 0) → gdE m x ∧ y = s + ndE m x := fun x s y h => ⟨ih x s y h, (look_done idB rgB m x s y h).2⟩
      obtain ⟨f1, _⟩ := funs_done idB (lookE idB rgB (m + 1)) (gdE m) (ndE m) ih2 x.funcs [] (s + 1) p hpq
      obtain ⟨k1, _⟩ := kids_done (m + 1) (lookE idB rgB (m + 1)) (gdE m) (ndE m) ih2 x.args _ y (fun u hu ho _ => by
        obtain ⟨a1, a2⟩ := form_abs hfb' hu ho
        exact ⟨gdE_leaf m (abs_qd hfb' hu ho) a1 a2, ndE_leaf m a1 a2⟩) h'
      exact ⟨hq, k1, f1⟩
end Go.Proofs.YtfegnmbdgdjkgaaGreat
