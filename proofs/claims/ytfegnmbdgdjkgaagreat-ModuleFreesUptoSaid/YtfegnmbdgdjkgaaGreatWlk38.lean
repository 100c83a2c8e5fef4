/- The program's walker: what stands while a node or a function's body is visited. -/
import Derived.Test.YtfegnmbdgdjkgaaGreatCpy38
import Derived.Test.YtfegnmbdgdjkgaaGreatGT
import Derived.Test.YtfegnmbdgdjkgaaGreatRfr38
namespace Go.Proofs.YtfegnmbdgdjkgaaGreat
open Go.RowKit

/-- Below B but for one block all is as it was. -/
structure FBB (B mb : Nat) (w w' : World) : Prop where
  os : w'.os = w.os
  tape : w'.tape = w.tape
  output : w'.output = w.output
  size : w.heap.size ≤ w'.heap.size
  block : ∀ k, k < B → k ≠ mb → w'.heap[k]? = w.heap[k]?
theorem FBB.trans {B mb : Nat} {a b c : World} (h : FBB B mb a b) (k : FBB B mb b c) : FBB B mb a c :=
  ⟨k.os.trans h.os, k.tape.trans h.tape, k.output.trans h.output, Nat.le_trans h.size k.size, fun i hi hn => (k.block i hi hn).trans (h.block i hi hn)⟩
theorem FBB.of_fb {B mb : Nat} {a b : World} (h : FB mb a b) (hB : B ≤ a.heap.size) : FBB B mb a b := ⟨h.os, h.tape, h.output, h.size, fun k hk hn => h.block k (by omega) hn⟩
theorem FBB.fb {mb : Nat} {a b : World} (h : FBB a.heap.size mb a b) : FB mb a b := ⟨h.os, h.tape, h.output, h.size, fun k hk hn => h.block k hk hn⟩
theorem FBB.of_below {B mb : Nat} {a b : World} (h : Below B a b) : FBB B mb a b := ⟨h.os, h.tape, h.output, h.size, fun k hk _ => h.block k hk⟩
theorem FBB.setCell {B mb q : Nat} (a : World) (o : Nat) (u : Value) (hq : B ≤ q) : FBB B mb a (a.setCell ⟨q, o, none⟩ u) := ⟨rfl, rfl, rfl, by simp, fun k hk _ => heap_setCell_other a _ k u (by show k ≠ q; omega)⟩
theorem FBB.setRow {B mb q : Nat} (a : World) (cs : Array Value) (hq : B ≤ q) : FBB B mb a (a.setRow q cs) := ⟨rfl, rfl, rfl, by simp, fun k hk _ => setRow_other _ _ _ _ (by omega)⟩
theorem FB.trans' {mb : Nat} {a b c : World} (h : FB mb a b) (k : FBB a.heap.size mb b c) : FB mb a c :=
  ⟨k.os.trans h.os, k.tape.trans h.tape, k.output.trans h.output, Nat.le_trans h.size k.size, fun i hi hn => (k.block i hi hn).trans (h.block i hi hn)⟩
theorem FBB.mono {B B' mb : Nat} {a b : World} (h : FBB B mb a b) (hB : B' ≤ B) : FBB B' mb a b := ⟨h.os, h.tape, h.output, h.size, fun k hk hn => h.block k (by omega) hn⟩
theorem FBB.cells {B mb b o : Nat} {a c : World} {cs : List Value} (h : FBB B mb a c) (hc : CellsAt a b o cs) (hb : b < B) (hn : b ≠ mb) : CellsAt c b o cs := fun j hj => by
  rw [← hc j hj]
  simp only [World.cell?]
  rw [h.block b hb hn]
theorem FBB.cell {B mb b o : Nat} {w w' : World} (h : FBB B mb w w') (hb : b < B) (hn : b ≠ mb) : w'.cell? ⟨b, o, none⟩ = w.cell? ⟨b, o, none⟩ := by
  simp only [World.cell?]
  rw [h.block b hb hn]
theorem FBB.below {B B' mb : Nat} {w w' : World} (h : FBB B mb w w') (h1 : B' ≤ mb) (h2 : B' ≤ B) : Below B' w w' := ⟨h.os, h.tape, h.output, h.size, fun k hk => h.block k (by omega) (by omega)⟩
theorem FBB.kept {mb lo B B' : Nat} {w w' : World} (h : FBB B mb w w') (hl : mb < lo) (hB : B' ≤ B) : Kept lo B' w w' := fun k h1 h2 => h.block k (by omega) (by omega)
theorem MaxC.fb {mb : Nat} {w w' : World} (h : MaxC w) (hm : 0 < mb) (hf : FB mb w w') : MaxC w' := by
  obtain ⟨m, hc⟩ := h
  exact ⟨m, (hf.cell (World.block_lt_of_cell? w _ hc) (by show 0 ≠ mb; omega)).trans hc⟩

def zeroEl : List Value := [.int .i64 0, .string ⟨#[]⟩, .int .i64 0, .bool false, .bool false, .string ⟨#[]⟩, .int .i64 0, .int .i64 0, .int .i64 0, .int .i64 0, .int .i64 0, .string ⟨#[]⟩, .slice none 0 0, .slice none 0 0, .slice none 0 0, .slice none 0 0, .slice none 0 0]
/-- What stands while a node is visited. -/
structure VisI (sb mb : Nat) (w u : World) (xs cs zs : List Value) (t : TypeId) : Prop where
  r1 : CellsAt u w.heap.size 0 (wlkC sb)
  r2 : CellsAt u (w.heap.size + 1) 0 xs
  box : u.heap[w.heap.size + 2]? = some (.cells cs.toArray 54 (0, 0))
  out : u.heap[w.heap.size + 3]? = some (.cells zs.toArray t (0, 0))
  fb : FBB w.heap.size mb w u
  size : w.heap.size + 4 ≤ u.heap.size
theorem VisI.step {sb mb : Nat} {w u u' : World} {xs cs zs : List Value} {t : TypeId} (h : VisI sb mb w u xs cs zs t) (hm : mb < w.heap.size) (hb : FBB (w.heap.size + 4) mb u u') : VisI sb mb w u' xs cs zs t :=
  ⟨hb.cells h.r1 (by omega) (by omega), hb.cells h.r2 (by omega) (by omega), (hb.block _ (by omega) (by omega)).trans h.box, (hb.block _ (by omega) (by omega)).trans h.out, h.fb.trans (hb.mono (by omega)), Nat.le_trans h.size hb.size⟩
theorem VisI.start (sb mb : Nat) (w : World) (xs cs zs : List Value) (t : TypeId) : VisI sb mb w ((((w.alloc (.cells (wlkC sb).toArray 48)).alloc (.cells xs.toArray t)).alloc (.cells cs.toArray 54)).alloc (.cells zs.toArray t)) xs cs zs t := by
  have h := Box3.start w (wlkC sb) xs cs 48 t 54
  have s1 : (w.alloc (.cells (wlkC sb).toArray 48)).heap.size = w.heap.size + 1 := World.size_alloc _ _
  have s2 : ((w.alloc (.cells (wlkC sb).toArray 48)).alloc (.cells xs.toArray t)).heap.size = w.heap.size + 2 := by rw [World.size_alloc, s1]
  have s3 : (((w.alloc (.cells (wlkC sb).toArray 48)).alloc (.cells xs.toArray t)).alloc (.cells cs.toArray 54)).heap.size = w.heap.size + 3 := by rw [World.size_alloc, s2]
  have h2 := h.below (belowBox _ (.cells zs.toArray t))
  refine ⟨h2.r1, h2.r2, ?_, ?_, FBB.of_below h2.low, by rw [World.size_alloc, s3]; omega⟩
  · have h3 := heap_alloc_new ((w.alloc (.cells (wlkC sb).toArray 48)).alloc (.cells xs.toArray t)) (.cells cs.toArray 54)
    rw [s2] at h3
    exact (heap_alloc_old _ _ (by rw [s3]; omega)).trans h3
  · have h3 := heap_alloc_new (((w.alloc (.cells (wlkC sb).toArray 48)).alloc (.cells xs.toArray t)).alloc (.cells cs.toArray 54)) (.cells zs.toArray t)
    rw [s3] at h3
    exact h3
theorem visNew (sb : Nat) (w : World) (xs cs zs : List Value) (t : TypeId) : Below w.heap.size w ((((w.alloc (.cells (wlkC sb).toArray 48)).alloc (.cells xs.toArray t)).alloc (.cells cs.toArray 54)).alloc (.cells zs.toArray t)) :=
  ((Box3.start w (wlkC sb) xs cs 48 t 54).below (belowBox _ (.cells zs.toArray t))).low
theorem VisI.scp {sb mb : Nat} {w u : World} {xs cs zs : List Value} {t : TypeId} (h : VisI sb mb w u xs cs zs t) {j : Nat} {v : Value} (hv : cs[j]? = some v) : u.cell? ⟨w.heap.size + 2, j, none⟩ = some v := by
  rw [cell_of_row u (w.heap.size + 2) j _ _ _ h.box]; simpa using hv
theorem VisI.frozen {sb mb : Nat} {w u : World} {xs cs zs : List Value} {t : TypeId} (h : VisI sb mb w u xs cs zs t) (j : Nat) : u.frozen? ⟨w.heap.size + 2, j, none⟩ = false := frozen_of_row u (w.heap.size + 2) j _ _ h.box
theorem VisI.setCell {sb mb : Nat} {w u : World} {xs cs zs : List Value} {t : TypeId} (h : VisI sb mb w u xs cs zs t) (j : Nat) (v : Value) : VisI sb mb w (u.setCell ⟨w.heap.size + 2, j, none⟩ v) xs (cs.set j v) zs t := by
  have hc : ∀ b o ys, b ≠ w.heap.size + 2 → CellsAt u b o ys → CellsAt (u.setCell ⟨w.heap.size + 2, j, none⟩ v) b o ys := fun b o ys hb hy k hk => by
    rw [← hy k hk]
    simp only [World.cell?]
    rw [heap_setCell_other _ _ _ _ (by simpa using hb)]
  refine ⟨hc _ _ _ (by omega) h.r1, hc _ _ _ (by omega) h.r2, ?_, (heap_setCell_other _ _ _ _ (by simp)).trans h.out, h.fb.trans (FBB.setCell _ _ _ (by omega)), by have := h.size; simpa using this⟩
  rw [heap_setCell_same u (w.heap.size + 2) j _ _ _ h.box]
  simp
theorem VisI.range {sb mb : Nat} {w u : World} {xs cs zs : List Value} {t : TypeId} (h : VisI sb mb w u xs cs zs t) : u.rangeAt (w.heap.size + 2) 0 cs := fun j v hv => by rw [Nat.zero_add]; exact h.scp hv

theorem CellsAt.part {u : World} {b : Nat} {xs vs : List Value} {o n : Nat} (h : CellsAt u b 0 xs) (hv : (xs.drop o).take n = vs) : u.rangeAt b o vs := fun j v hj => by
  subst hv
  rw [List.getElem?_take] at hj
  split at hj
  · rw [List.getElem?_drop] at hj
    have := h.range (o + j) v hj
    rwa [Nat.zero_add] at this
  · cases hj
theorem FBB.of_drew (B mb : Nat) (u : World) : FBB B mb u u.drew := ⟨rfl, rfl, rfl, Nat.le_refl _, fun _ _ _ => rfl⟩
/-- A new node: its operator, its name, its value. -/
def newE (x : ExprD) (ya la va : Option Addr) (yc lc vc : Nat) : List Value :=
  [.int .i64 x.op, .string x.name, .int .i64 x.val.kind, .bool x.val.bool, .bool x.val.num.neg, .string x.val.num.digits, .int .i64 x.val.num.exp, .int .i64 x.val.time.kind, .int .i64 x.val.time.day, .int .i64 x.val.time.nano, .int .i64 x.val.time.offset,
    .string x.val.text, .slice ya x.val.bytes.length yc, .slice la x.val.list.length lc, .slice va x.val.fields.length vc, .slice none 0 0, .slice none 0 0]
theorem newE_ones (x : ExprD) (ya la va : Option Addr) (yc lc vc : Nat) : (newE x ya la va yc lc vc).toArray.all (·.oneCell') = true := Go.all_oneCell_toArray (by intro u hu; simp [newE] at hu; rcases hu with rfl | rfl | rfl | rfl | rfl | rfl | rfl | rfl | rfl | rfl | rfl | rfl | rfl | rfl | rfl | rfl | rfl <;> rfl)
theorem newE_size (x : ExprD) (ya la va : Option Addr) (yc lc vc : Nat) : (Tryz.prog.info? 34).map (·.size) = some (newE x ya la va yc lc vc).toArray.size := sizeE
/-- The result as it is made: in block q, no arguments and no functions yet. -/
structure RetZ (u : World) (q : Nat) : Prop where
  has : ∃ (rs : List Value) (i : Int), u.heap[q]? = some (.cells rs.toArray 34 (0, 0)) ∧ rs.length = 17 ∧ rs.toArray.all (·.oneCell') = true ∧ rs[0]? = some (.int .i64 i) ∧ rs[15]? = some (.slice none 0 0) ∧ rs[16]? = some (.slice none 0 0)
theorem RetZ.start {u : World} {q : Nat} (x : ExprD) (ya la va : Option Addr) (yc lc vc : Nat) (h : u.heap[q]? = some (.cells (newE x ya la va yc lc vc).toArray 34 (0, 0))) : RetZ u q :=
  ⟨_, x.op, h, rfl, newE_ones x ya la va yc lc vc, rfl, rfl, rfl⟩
theorem RetZ.lt {u : World} {q : Nat} (h : RetZ u q) : q < u.heap.size := by
  obtain ⟨_, _, h1, _⟩ := h.has
  exact (Array.getElem?_eq_some_iff.1 h1).1
theorem RetZ.keep {u u' : World} {q : Nat} (h : RetZ u q) (hb : Kept q u.heap.size u u') : RetZ u' q := by
  have hl := h.lt
  obtain ⟨rs, i, h1, h2⟩ := h.has
  exact ⟨rs, i, (hb q (Nat.le_refl _) hl).trans h1, h2⟩
theorem RetZ.below {u u' : World} {q : Nat} (h : RetZ u q) (hb : Below u.heap.size u u') : RetZ u' q := h.keep (Kept.of_below hb)
theorem RetZ.setCell {u : World} {q g j : Nat} {v : Value} (h : RetZ u q) (hg : g < q) : RetZ (u.setCell ⟨g, j, none⟩ v) q := h.keep (fun k h1 h2 => heap_setCell_other _ _ _ _ (by show k ≠ g; omega))
/-- The result as it grows: in block q; the row that grows (cell 15 or 16) in a block of its own. -/
structure RetI (u : World) (q base j : Nat) (t : TypeId) (sz n : Nat) : Prop where
  has : ∃ (rs : List Value) (i : Int) (v : Value) (xs : List Value), u.heap[q]? = some (.cells rs.toArray 34 (0, 0)) ∧ rs.length = 17 ∧ rs.toArray.all (·.oneCell') = true ∧ rs[0]? = some (.int .i64 i) ∧ (j = 16 → rs[15]? = some (.slice none 0 0)) ∧ rs[j]? = some v ∧ u.ownsRow base t sz v n xs
  lt : q < base
  size : base ≤ u.heap.size
theorem RetZ.next {u : World} {q base sz : Nat} {t : TypeId} (h : RetZ u q) (h1 : q < base) (h2 : base ≤ u.heap.size) : RetI u q base 16 t sz 0 := by
  obtain ⟨rs, i, t1, t2, t3, t4, t5, t6⟩ := h.has
  exact ⟨⟨rs, i, _, [], t1, t2, t3, t4, fun _ => t5, t6, World.ownsRow_nil _ _ _ _⟩, h1, h2⟩
theorem RetI.next {u : World} {q base n sz sz' : Nat} {t t' : TypeId} (h : RetI u q base 16 t sz n) : RetI u q base 15 t' sz' 0 := by
  obtain ⟨rs, i, v, xs, h1, h2, h3, h4, h5, h6, h7⟩ := h.has
  exact ⟨⟨rs, i, _, [], h1, h2, h3, h4, fun h => absurd h (by decide), h5 rfl, World.ownsRow_nil _ _ _ _⟩, h.lt, h.size⟩
theorem own_fb {mb : Nat} {w w' : World} {B n sz : Nat} {t : TypeId} {v : Value} {xs : List Value} (h : w.ownsRow B t sz v n xs) (hb : FB mb w w') (hm : mb < B) : w'.ownsRow B t sz v n xs := by
  refine ⟨h.1, ?_⟩
  rcases h.2 with hn | ⟨g, cap, cur, rfl, h1, h2, rest⟩
  · exact .inl hn
  · exact .inr ⟨g, cap, cur, rfl, h1, (hb.block g (Array.getElem?_eq_some_iff.1 h2).1 (by omega)).trans h2, rest⟩
theorem own_kept {w w' : World} {B n sz : Nat} {t : TypeId} {v : Value} {xs : List Value} (h : w.ownsRow B t sz v n xs) (hb : Kept B w.heap.size w w') : w'.ownsRow B t sz v n xs := by
  refine ⟨h.1, ?_⟩
  rcases h.2 with hn | ⟨g, cap, cur, rfl, h1, h2, rest⟩
  · exact .inl hn
  · exact .inr ⟨g, cap, cur, rfl, h1, (hb g h1 (Array.getElem?_eq_some_iff.1 h2).1).trans h2, rest⟩
theorem RetI.keep {u u' : World} {q base j sz n : Nat} {t : TypeId} (h : RetI u q base j t sz n) (hb : Kept q u.heap.size u u') (hs : u.heap.size ≤ u'.heap.size) : RetI u' q base j t sz n := by
  have hl := h.lt
  have hs0 := h.size
  obtain ⟨rs, i, v, xs, h1, h2, h3, h4, h5, h6, h7⟩ := h.has
  exact ⟨⟨rs, i, v, xs, (hb q (Nat.le_refl _) (by omega)).trans h1, h2, h3, h4, h5, h6, own_kept h7 (fun k h1 h2 => hb k (by omega) h2)⟩, hl, by omega⟩
theorem RetI.fb {u u' : World} {q base j sz n mb : Nat} {t : TypeId} (h : RetI u q base j t sz n) (hb : FB mb u u') (hm : mb < q) : RetI u' q base j t sz n := h.keep (fun k h1 h2 => hb.block k h2 (by omega)) hb.size
theorem RetI.below {u u' : World} {q base j sz n : Nat} {t : TypeId} (h : RetI u q base j t sz n) (hb : Below u.heap.size u u') : RetI u' q base j t sz n := h.keep (Kept.of_below hb) hb.size
theorem own_one {u : World} {B sz n : Nat} {t : TypeId} {v : Value} {xs : List Value} (h : u.ownsRow B t sz v n xs) : v.oneCell' = true := by
  rcases h.2 with ⟨rfl, _⟩ | ⟨g, cap, cur, rfl, _⟩ <;> rfl
theorem own_slice38 {u : World} {B sz n : Nat} {t : TypeId} {v : Value} {xs : List Value} (h : u.ownsRow B t sz v n xs) : ∃ a c, v = .slice a n c := by
  rcases h.2 with ⟨rfl, rfl⟩ | ⟨g, cap, cur, rfl, _⟩
  · exact ⟨_, _, rfl⟩
  · exact ⟨_, _, rfl⟩
theorem own_setCell {u : World} {B sz n q j : Nat} {t : TypeId} {v x : Value} {xs : List Value} (h : u.ownsRow B t sz v n xs) (hq : q < B) : (u.setCell ⟨q, j, none⟩ x).ownsRow B t sz v n xs :=
  own_kept h fun k h1 _ => heap_setCell_other _ _ _ _ (by show k ≠ q; omega)
/-- The row has grown: its slice is put back. -/
theorem RetI.put {u : World} {q j sz m : Nat} {t : TypeId} {rs : List Value} {i : Int} {v : Value} {xs : List Value} (h1 : u.heap[q]? = some (.cells rs.toArray 34 (0, 0))) (h2 : rs.length = 17) (h3 : rs.toArray.all (·.oneCell') = true) (h4 : rs[0]? = some (.int .i64 i)) (h5 : j = 16 → rs[15]? = some (.slice none 0 0)) (hj0 : 0 < j) (hj : j < 17)
    {base : Nat} (hqb : q < base) (hsb : base ≤ u.heap.size) (h7 : u.ownsRow base t sz v m xs) : RetI (u.setCell ⟨q, j, none⟩ v) q base j t sz m := by
  refine ⟨⟨rs.set j v, i, v, xs, ?_, by simpa using h2, ?_, ?_, fun e => ?_, by rw [List.getElem?_set_self (by omega)], own_setCell h7 (by omega)⟩, hqb, by simpa using hsb⟩
  · rw [heap_setCell_same u q j _ _ _ h1]
    simp
  · refine Go.all_oneCell_toArray (fun x hx => ?_)
    rcases List.mem_or_eq_of_mem_set hx with hx | rfl
    · exact (List.all_eq_true.1 (by simpa using h3)) x hx
    · exact own_one h7
  · rw [List.getElem?_set_ne (by omega)]; exact h4
  · rw [List.getElem?_set_ne (by omega)]; exact h5 e
theorem NmsAt.setInt {u : World} {lo B : Nat} {l : List ByteArray} {a : Option Addr} (h : NmsAt u lo B l a) {q : Nat} {i : Int} (hq : u.cell? ⟨q, 0, none⟩ = some (.int .i64 i)) (j : Nat) (v : Value) : NmsAt (u.setCell ⟨q, j, none⟩ v) lo B l a := by
  rcases h with h | ⟨b, h1, h2, h3, h4⟩
  · exact .inl h
  · cases hl : l with
    | nil => exact .inl rfl
    | cons y r =>
      have h0 := h4 0 y (by rw [hl]; rfl)
      have hb : b ≠ q := fun e => by
        subst e
        rw [hq] at h0
        cases h0
      rw [← hl]
      refine .inr ⟨b, h1, h2, h3, fun k z hz => ?_⟩
      rw [← h4 k z hz]
      simp only [World.cell?]
      rw [heap_setCell_other _ _ _ _ hb]
theorem SgsAt.setInt {u : World} {lo B : Nat} {l : List (ByteArray × Int)} {a : Option Addr} (h : SgsAt u lo B l a) {q : Nat} {i : Int} (hq : u.cell? ⟨q, 0, none⟩ = some (.int .i64 i)) (j : Nat) (v : Value) : SgsAt (u.setCell ⟨q, j, none⟩ v) lo B l a := by
  rcases h with h | ⟨b, h1, h2, h3, h4⟩
  · exact .inl h
  · cases hl : l with
    | nil => exact .inl rfl
    | cons y r =>
      have h0 := h4 0 (.string y.1) (by rw [hl]; rfl)
      have hb : b ≠ q := fun e => by
        subst e
        rw [hq] at h0
        cases h0
      rw [← hl]
      refine .inr ⟨b, h1, h2, h3, fun k z hz => ?_⟩
      rw [← h4 k z hz]
      simp only [World.cell?]
      rw [heap_setCell_other _ _ _ _ hb]
theorem ScD.At.setInt {u : World} {lo B K : Nat} {d : ScD} {cs : List Value} (h : ScD.At u lo B K d cs) {q : Nat} {i : Int} (hq : u.cell? ⟨q, 0, none⟩ = some (.int .i64 i)) (j : Nat) (v : Value) : ScD.At (u.setCell ⟨q, j, none⟩ v) lo B K d cs := by
  obtain ⟨va, la, ga, vc, lc, gc, h0, h1, h2, h3, h4⟩ := h
  exact ⟨va, la, ga, vc, lc, gc, h0, h1.setInt hq j v, h2.setInt hq j v, h3.setInt hq j v, h4⟩
theorem infoEx : ∃ z : Array Value, z.size = 17 ∧ (Tryz.prog.info? 34).map (fun i => (i.zero, i.size, i.bytes)) = some (some (.agg z), 17, 240) := ⟨zeroEl.toArray, rfl, by kernel_rfl⟩
def WlkR (mb : Nat) (l : List ByteArray) (w : World) (e : Ending) (w' : World) : Prop := ∃ rs : List Value, e = .returned (.tuple #[.agg rs.toArray, .int .i64 0]) ∧ rs.length = 17 ∧ rs.toArray.all (·.oneCell') = true ∧ SetH w' mb l ∧ FB mb w w'
def WlkX (sb mb : Nat) (x : ExprD) (F : List ByteArray → List ByteArray) (n K : Nat) : Prop := ∀ (w : World) (lo B B1 N C : Nat) (xs : List Value) (d : ScD) (cs : List Value) (l : List ByteArray),
  N ≤ 1048576 → C + K ≤ 134217728 → l.length + n ≤ 65536 → B ≤ w.heap.size → B1 ≤ mb → 0 < mb → mb < lo → lo ≤ w.heap.size → sb ≠ mb → MaxC w → w.cell? ⟨sb, 0, none⟩ = some (.map (some mb)) → SetH w mb l → ScD.At w lo B C d cs → ExprD.At w B1 N x xs →
  Calls Tryz.prog 12 #[.agg (wlkC sb).toArray, .agg xs.toArray, .agg cs.toArray] w (WlkR mb (l ++ F d.vs) w)
theorem row_range {u : World} {q : Nat} {cs : List Value} {t : TypeId} (h : u.heap[q]? = some (.cells cs.toArray t (0, 0))) : u.rangeAt q 0 cs := fun j v hv => by
  rw [Nat.zero_add, cell_of_row u q j _ _ _ h]; simpa using hv
/-- Within a region that draws its order: the frame, the set, what is kept. -/
structure RegI (sb mb : Nat) (w w1 u : World) (xs cs zs : List Value) (t : TypeId) (L : List ByteArray) : Prop where
  vis : VisI sb mb w u xs cs zs t
  set : SetH u mb L
  fb : FB mb w1 u
theorem RegI.below {sb mb : Nat} {w w1 u u' : World} {xs cs zs : List Value} {t : TypeId} {L : List ByteArray} (h : RegI sb mb w w1 u xs cs zs t L) (hm : mb < w.heap.size) (hb : Below u.heap.size u u') : RegI sb mb w w1 u' xs cs zs t L :=
  ⟨h.vis.step hm (FBB.of_below (hb.mono h.vis.size)), h.set.later hb, h.fb.trans (FB.of_below hb)⟩
theorem RegI.start {sb mb : Nat} {w w1 : World} {xs cs zs : List Value} {t : TypeId} {L : List ByteArray} (hm : mb < w.heap.size) (h : VisI sb mb w w1 xs cs zs t) (hs : SetH w1 mb L) : RegI sb mb w w1 w1.drew xs cs zs t L :=
  ⟨h.step hm (FBB.of_drew _ _ _), hs.block rfl, FB.of_below (drewW w1)⟩
theorem RegI.went {sb mb : Nat} {w w1 u u' : World} {xs cs zs : List Value} {t : TypeId} {L L' : List ByteArray} (h : RegI sb mb w w1 u xs cs zs t L) (hm : mb < w.heap.size) (hb : FB mb u u') (hs : SetH u' mb L') : RegI sb mb w w1 u' xs cs zs t L' :=
  ⟨h.vis.step hm (FBB.of_fb hb h.vis.size), hs, h.fb.trans hb⟩
theorem RegI.setRow {sb mb : Nat} {w w1 u : World} {xs cs zs : List Value} {t : TypeId} {L : List ByteArray} (h : RegI sb mb w w1 u xs cs zs t L) (hm : mb < w.heap.size) {q : Nat} (hq : w.heap.size + 4 ≤ q) (hq1 : w1.heap.size ≤ q) (rs : Array Value) : RegI sb mb w w1 (u.setRow q rs) xs cs zs t L :=
  ⟨h.vis.step hm (FBB.setRow _ _ hq), h.set.block (setRow_other _ _ _ _ (by omega)), h.fb.trans' (FBB.setRow _ _ hq1)⟩
/-- What stands in the loops over the functions and over the arguments. -/
structure LoopI (sb mb : Nat) (w u : World) (xs cs1 : List Value) (lo HB C : Nat) (d1 : ScD) (L : List ByteArray) (q j : Nat) (t : TypeId) (sz n : Nat) : Prop where
  vis : VisI sb mb w u xs cs1 zeroEl 34
  sc : ScD.At u lo HB C d1 cs1
  set : SetH u mb L
  ret : RetI u q HB j t sz n
theorem LoopI.fb {sb mb : Nat} {w u u' : World} {xs cs1 : List Value} {lo HB C : Nat} {d1 : ScD} {L L' : List ByteArray} {q j sz n : Nat} {t : TypeId} (h : LoopI sb mb w u xs cs1 lo HB C d1 L q j t sz n) (hm : mb < w.heap.size) (hlo : mb < lo) (hq : w.heap.size + 4 ≤ q) (hf : FB mb u u') (hS : SetH u' mb L') :
    LoopI sb mb w u' xs cs1 lo HB C d1 L' q j t sz n :=
  ⟨h.vis.step hm (FBB.of_fb hf h.vis.size), h.sc.keep (hf.kept hlo h.ret.size), hS, h.ret.fb hf (by omega)⟩
theorem LoopI.below {sb mb : Nat} {w u u' : World} {xs cs1 : List Value} {lo HB C : Nat} {d1 : ScD} {L : List ByteArray} {q j sz n : Nat} {t : TypeId} (h : LoopI sb mb w u xs cs1 lo HB C d1 L q j t sz n) (hm : mb < w.heap.size) (hlo : mb < lo) (hq : w.heap.size + 4 ≤ q) (hb : Below u.heap.size u u') :
    LoopI sb mb w u' xs cs1 lo HB C d1 L q j t sz n := h.fb hm hlo hq (FB.of_below hb) (h.set.later hb)
/-- A row has grown by one and is put back. -/
theorem LoopI.grow {sb mb : Nat} {w u : World} {xs cs1 : List Value} {lo HB C : Nat} {d1 : ScD} {L : List ByteArray} {q j sz n : Nat} {t : TypeId} (h : LoopI sb mb w u xs cs1 lo HB C d1 L q j t sz n) (hm : mb < w.heap.size) (hq : w.heap.size + 4 ≤ q) (hj0 : 0 < j) (hj : j < 17)
    {rs : List Value} {i : Int} {v : Value} {xr : List Value} (t1 : u.heap[q]? = some (.cells rs.toArray 34 (0, 0))) (t2 : rs.length = 17) (t3 : rs.toArray.all (·.oneCell') = true) (t4 : rs[0]? = some (.int .i64 i)) (t5 : j = 16 → rs[15]? = some (.slice none 0 0)) (t6 : rs[j]? = some v) (t7 : u.ownsRow HB t sz v n xr)
    {o : Obj} {w' : World} {v' : Value} {m : Nat} {xr' : List Value} (hown : w'.ownsRow HB t sz v' m xr') (hg : (u.alloc o).grownBy w' v.ownBlock) :
    LoopI sb mb w (w'.setCell ⟨q, j, none⟩ v') xs cs1 lo HB C d1 L q j t sz m ∧ w'.frozen? ⟨q, j, none⟩ = false ∧ w'.cell? ⟨q, j, none⟩ = some v := by
  have hlt := h.ret.lt
  have hsz := h.ret.size
  have hsg := hg.size
  rw [World.size_alloc] at hsg
  have KP : ∀ k, k < HB → w'.heap[k]? = u.heap[k]? := fun k hk => (hg.block k (by rw [World.size_alloc]; omega) (fun e => by have := (t7.lt k e.symm).1; omega)).trans (heap_alloc_old u o (by omega))
  have t1' := (KP q hlt).trans t1
  have hF : FBB (w.heap.size + 4) mb u w' := ⟨hg.os, hg.tape, hg.output, by omega, fun k hk _ => KP k (by omega)⟩
  have hc0 : w'.cell? ⟨q, 0, none⟩ = some (.int .i64 i) := by
    have := row_range t1' 0 _ t4
    rwa [Nat.zero_add] at this
  refine ⟨⟨h.vis.step hm (hF.trans (FBB.setCell w' j v' hq)), (h.sc.keep (fun k _ hk => KP k hk)).setInt hc0 j v', h.set.block ?_, RetI.put t1' t2 t3 t4 t5 hj0 hj hlt (by omega) hown⟩, frozen_of_row w' q j _ _ t1', by have := row_range t1' j _ t6; rwa [Nat.zero_add] at this⟩
  rw [heap_setCell_other _ _ _ _ (by show mb ≠ q; omega)]
  exact KP mb (by omega)
end Go.Proofs.YtfegnmbdgdjkgaaGreat
