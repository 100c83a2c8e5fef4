/- What stays of a copy while more is made beside it: no program here. -/
import Derived.Test.YtmbldgcbnkhabaaGreatDoorGB
import Derived.Deep.AppendLies
import Derived.Test.YtmbldgcbnkhabaaGreatDoorGD
import Derived.Lib.SliceRun
import Derived.Test.YtmbldgcbnkhabaaGreatDoorGC
import Derived.Deep.RegionHeld3
import Derived.OrdersHeld
import Derived.Laws.CopyOwn
namespace Go.Proofs.YtmbldgcbnkhabaaGreatDoor
open Go.RowKit

/-- From block L on, but for one block, b holds what a holds. -/
def Keep (L : Nat) (no : Option Nat) (a b : World) : Prop := a.heap.size ≤ b.heap.size ∧ ∀ k, L ≤ k → k < a.heap.size → no ≠ some k → b.heap[k]? = a.heap[k]?
theorem Keep.refl (L : Nat) (no : Option Nat) (a : World) : Keep L no a a := ⟨Nat.le_refl _, fun _ _ _ _ => rfl⟩
theorem Keep.step {L : Nat} {no no2 : Option Nat} {a b c : World} (h : Keep L no a b) (k : Keep L no2 b c) (hn : ∀ q, L ≤ q → no2 = some q → no = some q ∨ a.heap.size ≤ q) : Keep L no a c :=
  ⟨Nat.le_trans h.1 k.1, fun q h1 h2 h3 => (k.2 q h1 (Nat.lt_of_lt_of_le h2 h.1) (fun e => (hn q h1 e).elim h3 (fun g => by omega))).trans (h.2 q h1 h2 h3)⟩
theorem Keep.wide {L L' : Nat} {no : Option Nat} {a b : World} (h : Keep L no a b) (hL : L ≤ L') : Keep L' no a b := ⟨h.1, fun k h1 => h.2 k (Nat.le_trans hL h1)⟩
theorem Keep.weak {L : Nat} {no : Option Nat} {a b : World} (h : Keep L none a b) : Keep L no a b := ⟨h.1, fun k h1 h2 _ => h.2 k h1 h2 (by simp)⟩
theorem keep_below {B L : Nat} {no : Option Nat} {a b : World} (h : Below B a b) (hB : a.heap.size ≤ B) : Keep L no a b := ⟨h.size, fun k _ h2 _ => h.block k (Nat.lt_of_lt_of_le h2 hB)⟩
theorem keep_grown {L : Nat} {row : Option Nat} {a b : World} (h : a.grownBy b row) : Keep L row a b := ⟨h.size, fun k _ h2 h3 => h.block k h2 (fun e => h3 e.symm)⟩
theorem keep_grown_far {L : Nat} {row : Option Nat} {a b : World} (h : a.grownBy b row) (hr : ∀ q, row = some q → q < L) : Keep L none a b := ⟨h.size, fun k h1 h2 _ => h.block k h2 (fun e => by have := hr k e.symm; omega)⟩
def Safe (L : Nat) (no : Option Nat) (a : World) (T : World → Prop) : Prop := ∀ b, Keep L no a b → T b
theorem Safe.here {L : Nat} {no : Option Nat} {a : World} {T : World → Prop} (h : Safe L no a T) : T a := h a (Keep.refl _ _ _)
theorem Safe.next {L : Nat} {no no2 : Option Nat} {a b : World} {T : World → Prop} (h : Safe L no a T) (k : Keep L no a b) (hn : ∀ q, L ≤ q → no2 = some q → no = some q ∨ a.heap.size ≤ q) : Safe L no2 b T := fun c hc => h c (k.step hc hn)
theorem Safe.wide {L L' : Nat} {no : Option Nat} {a : World} {T : World → Prop} (h : Safe L' no a T) (hL : L ≤ L') : Safe L no a T := fun c hc => h c (hc.wide hL)
theorem Safe.mono {L : Nat} {no : Option Nat} {a : World} {T T' : World → Prop} (h : Safe L no a T) (ht : ∀ b, T b → T' b) : Safe L no a T' := fun c hc => ht c (h c hc)
theorem Safe.weak {L : Nat} {no : Option Nat} {a : World} {T : World → Prop} (h : Safe L no a T) : Safe L none a T := fun c hc => h c hc.weak

/-- An owned row that is kept. -/
theorem own_keep {a c : World} {base sz n L : Nat} {t : TypeId} {v : Value} {xs : List Value} (h : a.ownsRow base t sz v n xs) (hk : Keep L none a c) (hL : L ≤ base) : c.ownsRow base t sz v n xs := by
  refine ⟨h.1, ?_⟩
  rcases h.2 with hn | ⟨g, cap, cur, rfl, h1, h2, rest⟩
  · exact .inl hn
  · exact .inr ⟨g, cap, cur, rfl, h1, (hk.2 g (by omega) (Array.getElem?_eq_some_iff.1 h2).1 (by simp)).trans h2, rest⟩
theorem own_slice {a : World} {base sz n : Nat} {t : TypeId} {v : Value} {xs : List Value} (h : a.ownsRow base t sz v n xs) : ∃ ad c, v = .slice ad n c := by
  rcases h.2 with ⟨rfl, rfl⟩ | ⟨g, cap, cur, rfl, _⟩
  · exact ⟨none, 0, rfl⟩
  · exact ⟨_, cap, rfl⟩

/-- A row of values that the call owns, with what they hold. -/
theorem vals_safe {a : World} {base N L n : Nat} {t : TypeId} {s : Value} {xs : List Value} {l : List ValD} (h : a.ownsRow base t 13 s n xs) (hn : l.length = n) (hL : L ≤ base)
    (hc : ∀ i (hi : i < l.length), Safe L s.ownBlock a (fun c => ValD.At c c.heap.size N l[i] ((xs.drop (i * 13)).take 13))) :
    ∃ ad cp, s = .slice ad l.length cp ∧ Safe L none a (fun c => ValsAt c c.heap.size N l ad) := by
  obtain ⟨ad, cp, rfl⟩ := own_slice h
  refine ⟨ad, cp, by rw [hn], fun c hk => ?_⟩
  obtain ⟨ad', cp', e, hv⟩ := valsAt_own (l := l) (N := N) (own_keep h hk hL) hn (Nat.le_refl _) (fun i hi => hc i hi c hk.weak)
  simp only [Value.slice.injEq] at e
  obtain ⟨rfl, _, _⟩ := e
  exact hv
theorem FieldsAt_of' {w : World} {B N b : Nat} (hb : b < B) : ∀ (l : List (ByteArray × ValD)) (o : Nat), (∀ i (hi : i < l.length), ∃ cs, l[i].1.size ≤ N ∧ CellsAt w b (o + i * 14) (.string l[i].1 :: cs) ∧ ValD.At w B N l[i].2 cs) → FieldsAt w B N l (some ⟨b, o, none⟩)
  | [], _, _ => trivial
  | (k, v) :: r, o, h => by
    obtain ⟨cs, h0, h1, h2⟩ := h 0 (by simp)
    refine ⟨⟨b, o, cs, rfl, hb, h0, by simpa using h1, h2⟩, ?_⟩
    refine FieldsAt_of' hb r (o + 14) fun i hi => ?_
    obtain ⟨cs, h0, h1, h2⟩ := h (i + 1) (by simpa using hi)
    exact ⟨cs, h0, by rw [show o + 14 + i * 14 = o + (i + 1) * 14 by omega]; exact h1, h2⟩
theorem fieldsAt_own {w : World} {base N B : Nat} {v : Value} {t : TypeId} {n : Nat} {cs : List Value} {l : List (ByteArray × ValD)} (h : w.ownsRow base t 14 v n cs) (hn : l.length = n) (hB : w.heap.size ≤ B)
    (hl : ∀ i (hi : i < l.length), ∃ ys, (cs.drop (i * 14)).take 14 = .string l[i].1 :: ys ∧ l[i].1.size ≤ N ∧ ValD.At w B N l[i].2 ys) : ∃ a c, v = .slice a l.length c ∧ FieldsAt w B N l a := by
  obtain ⟨hlen, h2⟩ := h
  rcases h2 with ⟨rfl, rfl⟩ | ⟨g, cap, cur, rfl, hg, hh, hc, hm, hcs, htake⟩
  · have : l = [] := List.length_eq_zero_iff.1 hn
    subst this
    exact ⟨none, 0, rfl, trivial⟩
  · refine ⟨some ⟨g, 0, none⟩, cap, by rw [hn], ?_⟩
    have hgl : g < w.heap.size := (Array.getElem?_eq_some_iff.1 hh).1
    refine FieldsAt_of' (Nat.lt_of_lt_of_le hgl hB) l 0 fun i hi => ?_
    obtain ⟨ys, e1, e2, e3⟩ := hl i hi
    refine ⟨ys, e2, ?_, e3⟩
    rw [← e1]
    intro j hj
    have hj14 : j < 14 := by simp at hj; omega
    have hi' : i * 14 + j < n * 14 := by
      have : i + 1 ≤ n := by omega
      have := Nat.mul_le_mul_right 14 this
      omega
    have e : w.cell? ⟨g, 0 + i * 14 + j, none⟩ = cur[0 + i * 14 + j]? := by simp [World.cell?, hh]
    rw [e, List.getElem?_take, if_pos hj14, List.getElem?_drop, ← htake, List.getElem?_take, if_pos hi', Nat.zero_add]
    simp
theorem fields_safe {a : World} {base N L n : Nat} {t : TypeId} {s : Value} {xs : List Value} {l : List (ByteArray × ValD)} (h : a.ownsRow base t 14 s n xs) (hn : l.length = n) (hL : L ≤ base)
    (hc : ∀ i (hi : i < l.length), ∃ ys, (xs.drop (i * 14)).take 14 = .string l[i].1 :: ys ∧ l[i].1.size ≤ N ∧ Safe L s.ownBlock a (fun c => ValD.At c c.heap.size N l[i].2 ys)) :
    ∃ ad cp, s = .slice ad l.length cp ∧ Safe L none a (fun c => FieldsAt c c.heap.size N l ad) := by
  obtain ⟨ad, cp, rfl⟩ := own_slice h
  refine ⟨ad, cp, by rw [hn], fun c hk => ?_⟩
  obtain ⟨ad', cp', e, hv⟩ := fieldsAt_own (l := l) (N := N) (own_keep h hk hL) hn (Nat.le_refl _) (fun i hi => by
    obtain ⟨ys, e1, e2, e3⟩ := hc i hi
    exact ⟨ys, e1, e2, e3 c hk.weak⟩)
  simp only [Value.slice.injEq] at e
  obtain ⟨rfl, _, _⟩ := e
  exact hv
theorem drop_take_append14 {xs ys : List Value} {n i : Nat} (hx : xs.length = n * 14) (hy : ys.length = 14) (hi : i < n + 1) :
    ((xs ++ ys).drop (i * 14)).take 14 = if i < n then (xs.drop (i * 14)).take 14 else ys := by
  split
  · rename_i h
    have h1 : i * 14 + 14 ≤ xs.length := by
      have := Nat.mul_le_mul_right 14 (show i + 1 ≤ n by omega)
      omega
    rw [List.drop_append_of_le_length (by omega), List.take_append_of_le_length (by simp; omega)]
  · rename_i h
    obtain rfl : i = n := by omega
    rw [← hx, List.drop_left, List.take_of_length_le (by omega)]
/-- What copied gives: the same value, in new cells. -/
def CopR (N : Nat) (v : ValD) (w : World) (e : Ending) (w' : World) : Prop := ∃ cs : List Value, e = .returned (.agg cs.toArray) ∧ Safe w.heap.size none w' (fun c => ValD.At c c.heap.size N v cs) ∧ Below w.heap.size w w'
/-- What slices.Clone gives of bytes. -/
def ClnR (l : List Int) (w : World) (e : Ending) (w' : World) : Prop := ∃ (ad : Option Addr) (cp : Nat), e = .returned (.slice ad l.length cp) ∧ Safe w.heap.size none w' (fun c => BytesAt c c.heap.size l ad) ∧ Below w.heap.size w w'
theorem bytes_safe {a : World} {base L n : Nat} {t : TypeId} {s : Value} {l : List Int} (h : a.ownsRow base t 1 s n (l.map (Value.int .u8))) (hn : l.length = n) (hL : L ≤ base) (hr : ∀ x ∈ l, 0 ≤ x ∧ x ≤ 255) :
    ∃ ad cp, s = .slice ad l.length cp ∧ Safe L none a (fun c => BytesAt c c.heap.size l ad) := by
  obtain ⟨ad, cp, rfl⟩ := own_slice h
  refine ⟨ad, cp, by rw [hn], fun c hk => ?_⟩
  have hc := own_keep h hk hL
  rcases Nat.eq_zero_or_pos l.length with hz | hp
  · exact .inl (List.length_eq_zero_iff.1 hz)
  · rcases hc.2 with ⟨e, e2⟩ | ⟨g, cap, cur, e, hg, hh, _, _, hcs, htake⟩
    · omega
    · simp only [Value.slice.injEq] at e
      obtain ⟨rfl, _, rfl⟩ := e
      refine .inr ⟨g, 0, rfl, (Array.getElem?_eq_some_iff.1 hh).1, fun j hj => ?_, hr⟩
      have hj' : j < n * 1 := by simp at hj; omega
      have e : c.cell? ⟨g, 0 + j, none⟩ = cur[0 + j]? := by simp [World.cell?, hh]
      rw [e, ← htake, List.getElem?_take, if_pos hj', Nat.zero_add]
      simp
end Go.Proofs.YtmbldgcbnkhabaaGreatDoor

/- slices.Clone of bytes. -/
namespace Go.Proofs.YtmbldgcbnkhabaaGreatDoor
open Go.RowKit

theorem ownBytes_map {w : World} {B n : Nat} {v : Value} {l : List Int} (h : w.ownsRow B 5 1 v n ([] ++ l.map (Value.int .u8))) : w.ownsRow B 5 1 v n (l.map (Value.int .u8)) := by simpa using h
end Go.Proofs.YtmbldgcbnkhabaaGreatDoor

/- value.copied: the same value in new cells. -/
namespace Go.Proofs.YtmbldgcbnkhabaaGreatDoor
open Go.RowKit

theorem wpList_store_new {P : Program} {ops : Array Oper} {rest : List Oper} {op : Oper} {a : Act} {w : World} {Q : Exit → Act → World → Prop} (hgd : op.guard = none) (ty : TypeId) (x y : Operand) (ho : op.op = .store ty x y)
    (c c' : Array Value) (hx : a.eval x = .pointer (some ⟨w.heap.size, 0, none⟩)) (hy : a.eval y = .agg c')
    (hi : (P.info? ty).map (·.size) = some c'.size) (hc : c.size = c'.size) (h1 : c'.all (·.oneCell') = true)
    (h : wpList P ops Q rest (a.put op.dst undef) (w.alloc (.cells c' ty))) : wpList P ops Q (op :: rest) a (w.alloc (.cells c ty)) :=
  wpList_plain hgd fun _ hK => by
    unfold Oper.wp execOp
    simp only [ho, hx, hy, Instr.storeAt, Instr.sureAddr, Sem.run_bind, Sem.run_pure, Result.andThen_ok, run_storeVar_new w ty c c' hi hc h1]
    exact hK _ _ h
theorem infoF : ∃ z : Array Value, z.size = 14 ∧ (Tryz.prog.info? 69).map (fun i => (i.zero, i.size, i.bytes)) = some (some (.agg z), 14, 184) :=
  ⟨#[.string ⟨#[]⟩, .int .i64 0, .bool false, .bool false, .string ⟨#[]⟩, .int .i64 0, .int .i64 0, .int .i64 0, .int .i64 0, .int .i64 0, .string ⟨#[]⟩, .slice none 0 0, .slice none 0 0, .slice none 0 0], rfl, by kernel_rfl⟩
theorem sizeF : (Tryz.prog.info? 69).map (·.size) = some 14 := by kernel_rfl
def zeroV : Array Value := #[.int .i64 0, .bool false, .bool false, .string ⟨#[]⟩, .int .i64 0, .int .i64 0, .int .i64 0, .int .i64 0, .int .i64 0, .string ⟨#[]⟩, .slice none 0 0, .slice none 0 0, .slice none 0 0]
def zeroF : Array Value := #[.string ⟨#[]⟩, .int .i64 0, .bool false, .bool false, .string ⟨#[]⟩, .int .i64 0, .int .i64 0, .int .i64 0, .int .i64 0, .int .i64 0, .string ⟨#[]⟩, .slice none 0 0, .slice none 0 0, .slice none 0 0]
theorem fold_zip_up : ∀ (cs : List Value) (n : Nat) (Z : Array Value), List.foldl (fun (a : Array Value) (x : Value × Nat) => a.setIfInBounds (1 + x.2) x.1) Z (cs.zipIdx n) = List.foldl (fun (a : Array Value) (x : Value × Nat) => a.setIfInBounds x.2 x.1) Z (cs.zipIdx (n + 1))
  | [], _, _ => rfl
  | c :: cs, n, Z => by
    rw [List.zipIdx_cons, List.zipIdx_cons, List.foldl_cons, List.foldl_cons, fold_zip_up cs (n + 1)]
    rw [show 1 + (c, n).2 = (c, n + 1).2 from Nat.add_comm 1 n]
theorem fold_zip1 (ky : ByteArray) (cs : List Value) (h : cs.length = 13) : List.foldl (fun (a : Array Value) (x : Value × Nat) => a.setIfInBounds (1 + x.2) x.1) #[.string ky, .int .i64 0, .bool false, .bool false, .string ⟨#[]⟩, .int .i64 0, .int .i64 0, .int .i64 0, .int .i64 0, .int .i64 0, .string ⟨#[]⟩, .slice none 0 0, .slice none 0 0, .slice none 0 0] cs.zipIdx = (.string ky :: cs).toArray := by
  rw [fold_zip_up, fold_zip cs 1 _ (by rw [h]; rfl)]
  rfl
theorem fold_zip2 (ky : ByteArray) (cs : List Value) (h : cs.length = 13) : List.foldl (fun (a : Array Value) (x : Value × Nat) => a.setIfInBounds x.2 x.1) #[.string ky, .int .i64 0, .bool false, .bool false, .string ⟨#[]⟩, .int .i64 0, .int .i64 0, .int .i64 0, .int .i64 0, .int .i64 0, .string ⟨#[]⟩, .slice none 0 0, .slice none 0 0, .slice none 0 0] (cs.zipIdx 1) = (.string ky :: cs).toArray := by
  rw [fold_zip cs 1 _ (by rw [h]; rfl)]
  rfl
theorem row_one (v : ValD) (ya la va : Option Addr) (yc lc vc : Nat) : (v.row ya la va yc lc vc).toArray.all (·.oneCell') = true := Go.all_oneCell_toArray (fun u hu => by
  simp [ValD.row] at hu
  rcases hu with rfl | rfl | rfl | rfl | rfl | rfl | rfl | rfl | rfl | rfl | rfl | rfl | rfl <;> rfl)
theorem row_set10 (v : ValD) (ya la va yb : Option Addr) (yc lc vc yd : Nat) : (v.row ya la va yc lc vc).toArray.setIfInBounds 10 (.slice yb v.bytes.length yd) = (v.row yb la va yd lc vc).toArray := rfl
theorem row_set1112 (v : ValD) (ya la va lb fb : Option Addr) (yc lc vc ld fd : Nat) : ((v.row ya la va yc lc vc).toArray.setIfInBounds 11 (.slice lb v.list.length ld)).setIfInBounds 12 (.slice fb v.fields.length fd) = (v.row ya lb fb yc ld fd).toArray := rfl
/-- Block b holds these cells, and they may be written. -/
def RowAt (w : World) (b : Nat) (cs : List Value) : Prop := w.heap[b]? = some (.cells cs.toArray 30 (0, 0))
theorem RowAt.cell {w : World} {b j : Nat} {cs : List Value} {v : Value} (h : RowAt w b cs) (hv : cs[j]? = some v) : w.cell? ⟨b, j, none⟩ = some v := by
  rw [cell_of_row w b j _ _ _ h]; simpa using hv
theorem RowAt.frozen {w : World} {b : Nat} {cs : List Value} (h : RowAt w b cs) (j : Nat) : w.frozen? ⟨b, j, none⟩ = false := frozen_of_row w b j _ _ h
theorem RowAt.below {w w' : World} {B b : Nat} {cs : List Value} (h : RowAt w b cs) (hb : Below B w w') (hlt : b < B) : RowAt w' b cs := (hb.block b hlt).trans h
theorem RowAt.range {w : World} {b : Nat} {cs : List Value} (h : RowAt w b cs) : w.rangeAt b 0 cs := fun j v hv => by rw [Nat.zero_add]; exact h.cell hv
theorem RowAt.grown {w w' : World} {b : Nat} {row : Option Nat} {cs : List Value} (h : RowAt w b cs) (hg : w.grownBy w' row) (hlt : b < w.heap.size) (hne : some b ≠ row) : RowAt w' b cs := (hg.block b hlt hne).trans h
theorem RowAt.alloc {w : World} {b : Nat} {cs : List Value} (h : RowAt w b cs) (hlt : b < w.heap.size) (o : Obj) : RowAt (w.alloc o) b cs := (heap_alloc_old w o hlt).trans h

theorem own_below' {w w' : World} {B n sz : Nat} {t : TypeId} {v : Value} {xs : List Value} (h : w.ownsRow B t sz v n xs) (hb : Below w.heap.size w w') : w'.ownsRow B t sz v n xs := by
  refine ⟨h.1, ?_⟩
  rcases h.2 with hn | ⟨g, cap, cur, rfl, h1, h2, rest⟩
  · exact .inl hn
  · exact .inr ⟨g, cap, cur, rfl, h1, (hb.block g (Array.getElem?_eq_some_iff.1 h2).1).trans h2, rest⟩
theorem belowThen' {a b c : World} {L : Nat} (h : Below a.heap.size a b) (k : Below L b c) (hL : a.heap.size ≤ L := by omega) : Below a.heap.size a c := h.trans (k.mono hL)
theorem step_facts {L : Nat} {wr w2 w3 : World} {o o2 : Obj} {s : Value} {g : Nat} (hL : L ≤ wr.heap.size) (hs : ∀ q, s.ownBlock = some q → L ≤ q ∧ q < wr.heap.size)
    (hb2 : Below (wr.alloc o).heap.size (wr.alloc o) w2) (hgrow : (w2.alloc o2).grownBy w3 s.ownBlock) (hlie : s.ownBlock = some g ∨ g = (w2.alloc o2).heap.size) :
    (Keep L s.ownBlock wr w3 ∧ (∀ q, L ≤ q → some g = some q → s.ownBlock = some q ∨ wr.heap.size ≤ q)) ∧ (Keep (wr.alloc o).heap.size none w2 w3 ∧ (∀ q, (wr.alloc o).heap.size ≤ q → some g = some q → (none : Option Nat) = some q ∨ w2.heap.size ≤ q)) ∧ Below L wr w3 := by
  have hsz : (wr.alloc o).heap.size = wr.heap.size + 1 := World.size_alloc _ _
  have hsz2 : (w2.alloc o2).heap.size = w2.heap.size + 1 := World.size_alloc _ _
  have h2 := hb2.size
  have hbw : Below wr.heap.size wr w2 := belowThen (belowBox wr o) hb2
  refine ⟨⟨?_, ?_⟩, ⟨?_, ?_⟩, ?_⟩
  · refine ((keep_below hbw (Nat.le_refl _)).step (keep_below (belowBox w2 o2) (Nat.le_refl _)) (fun q _ h => .inl h)).step (keep_grown hgrow) (fun q _ h => .inl h)
  · rintro q _ e
    cases e
    rcases hlie with h | h
    · exact .inl h
    · exact .inr (by omega)
  · refine (keep_below (belowBox w2 o2) (Nat.le_refl _)).step (keep_grown_far hgrow (fun q h => ?_)) (fun q _ h => .inl h)
    have := (hs q h).2
    omega
  · rintro q hq e
    cases e
    rcases hlie with h | h
    · have := (hs _ h).2
      omega
    · exact .inr (by omega)
  · refine ((hbw.mono hL).alloc (by omega) o2).grown hgrow (by omega) (fun q h => (hs q h).1)

end Go.Proofs.YtmbldgcbnkhabaaGreatDoor
