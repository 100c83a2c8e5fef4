/- value.copied: the same value in new cells. -/
import Derived.Test.YtnoddigkafldfaaDoorCopB
import Derived.Test.YtnoddigkafldfaaDoorRoom07
import Derived.Deep.RegionHeld3
import Derived.OrdersHeld
import Derived.Laws.CopyOwn
namespace Go.Proofs.YtnoddigkafldfaaDoor
open Go.RowKit

theorem wpList_store_new {P : Program} {ops : Array Oper} {rest : List Oper} {op : Oper} {a : Act} {w : World} {Q : Exit → Act → World → Prop} (hgd : op.guard = none) (ty : TypeId) (x y : Operand) (ho : op.op = .store ty x y)
    (c c' : Array Value) (hx : a.eval x = .pointer (some ⟨w.heap.size, 0, none⟩)) (hy : a.eval y = .agg c')
    (hi : (P.info? ty).map (·.size) = some c'.size) (hc : c.size = c'.size) (h1 : c'.all (·.oneCell') = true)
    (h : wpList P ops Q rest (a.put op.dst undef) (w.alloc (.cells c' ty))) : wpList P ops Q (op :: rest) a (w.alloc (.cells c ty)) :=
  wpList_plain hgd fun _ hK => by
    unfold Oper.wp execOp
    simp only [ho, hx, hy, Instr.storeAt, Instr.sureAddr, Sem.run_bind, Sem.run_pure, Result.andThen_ok, run_storeVar_new w ty c c' hi hc h1]
    exact hK _ _ h
theorem infoF : ∃ z : Array Value, z.size = 14 ∧ (Tryd.prog.info? 58).map (fun i => (i.zero, i.size, i.bytes)) = some (some (.agg z), 14, 184) :=
  ⟨#[.string ⟨#[]⟩, .int .i64 0, .bool false, .bool false, .string ⟨#[]⟩, .int .i64 0, .int .i64 0, .int .i64 0, .int .i64 0, .int .i64 0, .string ⟨#[]⟩, .slice none 0 0, .slice none 0 0, .slice none 0 0], rfl, by kernel_rfl⟩
theorem sizeF : (Tryd.prog.info? 58).map (·.size) = some 14 := by kernel_rfl
def zeroV : Array Value := #[.int .i64 0, .bool false, .bool false, .string ⟨#[]⟩, .int .i64 0, .int .i64 0, .int .i64 0, .int .i64 0, .int .i64 0, .string ⟨#[]⟩, .slice none 0 0, .slice none 0 0, .slice none 0 0]
def zeroF : Array Value := #[.string ⟨#[]⟩, .int .i64 0, .bool false, .bool false, .string ⟨#[]⟩, .int .i64 0, .int .i64 0, .int .i64 0, .int .i64 0, .int .i64 0, .string ⟨#[]⟩, .slice none 0 0, .slice none 0 0, .slice none 0 0]
theorem fold_zip_up : ∀ (cs : List Value) (n : Nat) (Z : Array Value), List.foldl (fun (a : Array Value) (x : Value × Nat) => a.setIfInBounds (1 + x.2) x.1) Z (cs.zipIdx n) = List.foldl (fun (a : Array Value) (x : Value × Nat) => a.setIfInBounds x.2 x.1) Z (cs.zipIdx (n + 1))
  | [], _, _ => rfl
  | c :: cs, n, Z => by
    rw [List.zipIdx_cons, List.zipIdx_cons, List.foldl_cons, List.foldl_cons, fold_zip_up cs (n + 1)]
    rw [show 1 + (c, n).2 = (c, n + 1).2 from Nat.add_comm 1 n]
theorem fold_zip1 (ky : ByteArray) (cs : List Value) (h : cs.length = 13) : List.foldl (fun (a : Array Value) (x : Value × Nat) => a.setIfInBounds (1 + x.2) x.1) #[.string ky, .int .i64 0, .bool false, .bool false, .string ⟨#[]⟩, .int .i64 0, .int .i64 0, .int .i64 0, .int .i64 0, .int .i64 0, .string ⟨#[]⟩, .slice none 0 0, .slice none 0 0, .slice none 0 0] cs.zipIdx = (.string ky :: cs).toArray := by
  rw [fold_zip_up, fold_zip cs 1 _ (by rw [h]; rfl)]
  rfl
theorem fold_zip2 (ky : ByteArray) (cs : List Value) (h : cs.length = 13) : List.foldl (fun (a : Array Value) (x : Value × Nat) => a.setIfInBounds x.2 x.1) #[.string ky, .int .i64 0, .bool false, .bool false, .string ⟨#[]⟩, .int .i64 0, .int .i64 0, .int .i64 0, .int .i64 0, .int .i64 0, .string ⟨#[]⟩, .slice none 0 0, .slice none 0 0, .slice none 0 0] (cs.zipIdx 1) = (.string ky :: cs).toArray := by
  rw [fold_zip cs 1 _ (by rw [h]; rfl)]
  rfl
theorem row_one (v : ValD) (ya la va : Option Addr) (yc lc vc : Nat) : (v.row ya la va yc lc vc).toArray.all (·.oneCell') = true := Go.all_oneCell_toArray (fun u hu => by
  simp [ValD.row] at hu
  rcases hu with rfl | rfl | rfl | rfl | rfl | rfl | rfl | rfl | rfl | rfl | rfl | rfl | rfl <;> rfl)
theorem row_set10 (v : ValD) (ya la va yb : Option Addr) (yc lc vc yd : Nat) : (v.row ya la va yc lc vc).toArray.setIfInBounds 10 (.slice yb v.bytes.length yd) = (v.row yb la va yd lc vc).toArray := rfl
theorem row_set1112 (v : ValD) (ya la va lb fb : Option Addr) (yc lc vc ld fd : Nat) : ((v.row ya la va yc lc vc).toArray.setIfInBounds 11 (.slice lb v.list.length ld)).setIfInBounds 12 (.slice fb v.fields.length fd) = (v.row ya lb fb yc ld fd).toArray := rfl
/-- Block b holds these cells, and they may be written. -/
def RowAt (w : World) (b : Nat) (cs : List Value) : Prop := w.heap[b]? = some (.cells cs.toArray 38 (0, 0))
theorem RowAt.cell {w : World} {b j : Nat} {cs : List Value} {v : Value} (h : RowAt w b cs) (hv : cs[j]? = some v) : w.cell? ⟨b, j, none⟩ = some v := by
  rw [cell_of_row w b j _ _ _ h]; simpa using hv
theorem RowAt.frozen {w : World} {b : Nat} {cs : List Value} (h : RowAt w b cs) (j : Nat) : w.frozen? ⟨b, j, none⟩ = false := frozen_of_row w b j _ _ h
theorem RowAt.below {w w' : World} {B b : Nat} {cs : List Value} (h : RowAt w b cs) (hb : Below B w w') (hlt : b < B) : RowAt w' b cs := (hb.block b hlt).trans h
theorem RowAt.range {w : World} {b : Nat} {cs : List Value} (h : RowAt w b cs) : w.rangeAt b 0 cs := fun j v hv => by rw [Nat.zero_add]; exact h.cell hv
theorem RowAt.grown {w w' : World} {b : Nat} {row : Option Nat} {cs : List Value} (h : RowAt w b cs) (hg : w.grownBy w' row) (hlt : b < w.heap.size) (hne : some b ≠ row) : RowAt w' b cs := (hg.block b hlt hne).trans h
theorem RowAt.alloc {w : World} {b : Nat} {cs : List Value} (h : RowAt w b cs) (hlt : b < w.heap.size) (o : Obj) : RowAt (w.alloc o) b cs := (heap_alloc_old w o hlt).trans h

theorem own_below' {w w' : World} {B n sz : Nat} {t : TypeId} {v : Value} {xs : List Value} (h : w.ownsRow B t sz v n xs) (hb : Below w.heap.size w w') : w'.ownsRow B t sz v n xs := by
  refine ⟨h.1, ?_⟩
  rcases h.2 with hn | ⟨g, cap, cur, rfl, h1, h2, rest⟩
  · exact .inl hn
  · exact .inr ⟨g, cap, cur, rfl, h1, (hb.block g (Array.getElem?_eq_some_iff.1 h2).1).trans h2, rest⟩
theorem belowThen' {a b c : World} {L : Nat} (h : Below a.heap.size a b) (k : Below L b c) (hL : a.heap.size ≤ L := by omega) : Below a.heap.size a c := h.trans (k.mono hL)
theorem step_facts {L : Nat} {wr w2 w3 : World} {o o2 : Obj} {s : Value} {g : Nat} (hL : L ≤ wr.heap.size) (hs : ∀ q, s.ownBlock = some q → L ≤ q ∧ q < wr.heap.size)
    (hb2 : Below (wr.alloc o).heap.size (wr.alloc o) w2) (hgrow : (w2.alloc o2).grownBy w3 s.ownBlock) (hlie : s.ownBlock = some g ∨ g = (w2.alloc o2).heap.size) :
    (Keep L s.ownBlock wr w3 ∧ (∀ q, L ≤ q → some g = some q → s.ownBlock = some q ∨ wr.heap.size ≤ q)) ∧ (Keep (wr.alloc o).heap.size none w2 w3 ∧ (∀ q, (wr.alloc o).heap.size ≤ q → some g = some q → (none : Option Nat) = some q ∨ w2.heap.size ≤ q)) ∧ Below L wr w3 := by
  have hsz : (wr.alloc o).heap.size = wr.heap.size + 1 := World.size_alloc _ _
  have hsz2 : (w2.alloc o2).heap.size = w2.heap.size + 1 := World.size_alloc _ _
  have h2 := hb2.size
  have hbw : Below wr.heap.size wr w2 := belowThen (belowBox wr o) hb2
  refine ⟨⟨?_, ?_⟩, ⟨?_, ?_⟩, ?_⟩
  · refine ((keep_below hbw (Nat.le_refl _)).step (keep_below (belowBox w2 o2) (Nat.le_refl _)) (fun q _ h => .inl h)).step (keep_grown hgrow) (fun q _ h => .inl h)
  · rintro q _ e
    cases e
    rcases hlie with h | h
    · exact .inl h
    · exact .inr (by omega)
  · refine (keep_below (belowBox w2 o2) (Nat.le_refl _)).step (keep_grown_far hgrow (fun q h => ?_)) (fun q _ h => .inl h)
    have := (hs q h).2
    omega
  · rintro q hq e
    cases e
    rcases hlie with h | h
    · have := (hs _ h).2
      omega
    · exact .inr (by omega)
  · refine ((hbw.mono hL).alloc (by omega) o2).grown hgrow (by omega) (fun q h => (hs q h).1)

end Go.Proofs.YtnoddigkafldfaaDoor
