/- What the program's check of expressions keeps: laid variables, sets of names, a counter behind a pointer. -/
import Derived.Test.YtfegnmbdgdjkgaaGreatDoorGK
import Derived.Test.YtfegnmbdgdjkgaaGreatDoorGF
import Derived.Test.YtfegnmbdgdjkgaaGreatDoorSiz36
namespace Go.Proofs.YtfegnmbdgdjkgaaGreatDoor
open Go.RowKit

theorem Env.fb {w w' : World} {pb B : Nat} (h : Env w) (hf : FB pb w w') (h4 : 4 ≤ B) (hp : B ≤ pb) (hB : B ≤ w.heap.size) : Env w' := by
  have hb : Below B w w' := hf.below hp hB
  obtain ⟨hu, ⟨T, fr, hk⟩, m, hm⟩ := h
  refine ⟨⟨fun c hc => ?_, fun i hi => ?_⟩, ⟨T, fr, ?_⟩, m, ?_⟩
  · rw [hb.cell (show 2 < B by omega)]; exact hu.1 c hc
  · have h1 := hu.2 i hi
    exact ⟨by rw [hb.cell (show 3 < B by omega)]; exact h1.1, by rw [hb.cell (show 3 < B by omega)]; exact h1.2⟩
  · rw [hb.block _ (show 0 < B by omega)]; exact hk
  · rw [hb.cell (show 1 < B by omega)]; exact hm
theorem FB.grown {pb b : Nat} {a w w' : World} (h : FB pb a w) (hg : w.grownBy w' (some b)) (hb : a.heap.size ≤ b) : FB pb a w' :=
  ⟨hg.os.trans h.os, hg.tape.trans h.tape, hg.output.trans h.output, Nat.le_trans h.size hg.size, fun k hk hn =>
    (hg.block k (Nat.lt_of_lt_of_le hk h.size) (fun e => by cases e; omega)).trans (h.block k hk hn)⟩
theorem FB.cell {pb b o : Nat} {a c : World} (h : FB pb a c) (hb : b < a.heap.size) (hn : b ≠ pb) : c.cell? ⟨b, o, none⟩ = a.cell? ⟨b, o, none⟩ := by
  simp only [World.cell?]
  rw [h.block b hb hn]
theorem SetAt.fb {w w' : World} {K E : TypeId} {b n pb : Nat} {l : List (List UInt8)} (h : SetAt w K E b n l) (hf : FB pb w w') (hn : b ≠ pb) : SetAt w' K E b n l := h.block (hf.block b h.lt hn)
theorem CellI.grown {w w' : World} {pb b : Nat} {x : Int} (h : CellI w pb x) (hg : w.grownBy w' (some b)) (hn : pb ≠ b) : CellI w' pb x := (hg.block pb h.lt (fun e => by cases e; exact hn rfl)).trans h
theorem cell_lt {w : World} {b o : Nat} {v : Value} (h : w.cell? ⟨b, o, none⟩ = some v) : b < w.heap.size := World.block_lt_of_cell? w _ h

/-- Names as texts. -/
def strs (L : List ByteArray) : List (List UInt8) := L.map (·.data.toList)
theorem strs_next {L : List ByteArray} {k : Nat} (h : k < L.length) : strs (L.take (k + 1)) = strs (L.take k) ++ [L[k].data.toList] := by
  unfold strs; rw [take_next h, List.map_append]; rfl
theorem strs_mem (L : List ByteArray) (nm : ByteArray) : decide (nm.data.toList ∈ strs L) = L.any fun s => s.toList == nm.toList := by
  rw [Bool.eq_iff_iff, decide_eq_true_eq, List.any_eq_true]
  unfold strs
  rw [List.mem_map]
  constructor
  · rintro ⟨s, hs, he⟩
    exact ⟨s, hs, by rw [ByteArray.toList_eq, ByteArray.toList_eq, he]; simp⟩
  · rintro ⟨s, hs, he⟩
    refine ⟨s, hs, ?_⟩
    rw [ByteArray.toList_eq, ByteArray.toList_eq] at he
    simpa using he
theorem paE_any8 {l : List ParD} {k : Nat} (h : k < l.length) (hi : identB l[k].name = true) (hs : decide (l[k].name.data.toList ∈ strs ((nmsP l).take k)) = true) : paE l k = 8 := by
  unfold paE
  rw [parsE_step identB h, if_neg (by rw [hi]; simp), if_pos (by rw [← strs_mem]; exact hs)]
theorem paE_anyN {l : List ParD} {k : Nat} (h : k < l.length) (hi : identB l[k].name = true) (hs : decide (l[k].name.data.toList ∈ strs ((nmsP l).take k)) = false) : paE l k = paE l (k + 1) := by
  unfold paE
  rw [parsE_step identB h, if_neg (by rw [hi]; simp), if_neg (by rw [← strs_mem, hs]; simp), take_next (by rw [nmsP_len]; exact h), nmsP_get h]
theorem fuE_any8 {m : Nat} {l : List FuncD} {k : Nat} {s : Int} (h : k < l.length) (hi : identB l[k].name = true) (h8 : ¬ 8 < l[k].params.length) (hp : paE l[k].params 0 = 0)
    (hs : decide (l[k].name.data.toList ∈ strs ((nmsF l).take k)) = true) : fuE m l k s = (s, 8) :=
  fuE_head h (by decide) (by
    unfold headE
    rw [if_neg (by rw [hi]; simp), if_neg h8, ← paE_0, hp, if_neg (by simp), if_pos (by rw [← strs_mem]; exact hs)])
theorem fuE_anyG {m : Nat} {l : List FuncD} {k : Nat} {s : Int} (h : k < l.length) (hi : identB l[k].name = true) (h8 : ¬ 8 < l[k].params.length) (hp : paE l[k].params 0 = 0)
    (hs : decide (l[k].name.data.toList ∈ strs ((nmsF l).take k)) = false) : fuE m l k s = if (lkE m l[k].body s).2 ≠ 0 then lkE m l[k].body s else fuE m l (k + 1) (lkE m l[k].body s).1 := by
  unfold fuE
  rw [funsE_step identB (lkE m) h, show headE identB ((nmsF l).take k) l[k].name l[k].params = 0 from by
    unfold headE
    rw [if_neg (by rw [hi]; simp), if_neg h8, ← paE_0, hp, if_neg (by simp), if_neg (by rw [← strs_mem, hs]; simp)], if_neg (by simp), take_next (by rw [nmsF_len]; exact h), nmsF_get h]

/-- What is known of 'visit' from a depth on. -/
def VisX (m : Nat) : Prop := ∀ (x : ExprD) (w : World) (B N : Nat) (cs : List Value) (depth : Nat) (n : Int) (pb : Nat), depth + m = 49 → 0 ≤ n → n ≤ 4096 → N ≤ 1073741824 → 4 ≤ B → B ≤ w.heap.size → B ≤ pb → CellI w pb n → Env w → smlE x → ExprD.At w B N x cs →
    Calls Tryz.prog 22 #[.agg cs.toArray, .int .i64 depth, .pointer (some ⟨pb, 0, none⟩)] w (ChkX pb (lkE m x n) w)
def FunsP (m : Nat) : Prop := ∀ (l : List FuncD) (a : Option Addr) (c : Nat) (w : World) (B N : Nat) (depth : Nat) (n : Int) (pb db nb : Nat), depth + 1 + m = 49 → 0 ≤ n → n ≤ 4096 → N ≤ 1073741824 → 4 ≤ B → B ≤ w.heap.size → B ≤ pb → CellI w pb n → Env w →
    w.cell? ⟨db, 0, none⟩ = some (.int .i64 depth) → w.cell? ⟨nb, 0, none⟩ = some (.pointer (some ⟨pb, 0, none⟩)) → db ≠ pb → nb ≠ pb → l.length ≤ N → smlF l → FuncsAt w B N l a →
    Calls Tryz.prog 45 #[.slice a l.length c, .func (.func 46) #[] #[.pointer (some ⟨db, 0, none⟩), .pointer (some ⟨nb, 0, none⟩)]] w (ChkX pb (fnE m l n) w)

theorem chk_ret {pb : Nat} {r : Int × Int} {y z u : Int} {w w' : World} (h : r = (y, z)) (hf : FB pb w w') (hu : CellI w' pb u) (hz : z = 0 → u = y) : ChkX pb r w (.returned (.int .i64 z)) w' := by
  subst h; exact ⟨rfl, hf, u, hu, hz⟩
set_option maxRecDepth 100000 in
theorem body_p (m : Nat) (ih : VisX m) (x : ExprD) (w : World) (B N : Nat) (cs : List Value) (depth : Nat) (n : Int) (pb db nb : Nat) (hd : depth + 1 + m = 49) (h0 : 0 ≤ n) (h1 : n ≤ 4096) (hN : N ≤ 1073741824) (h4 : 4 ≤ B) (hB : B ≤ w.heap.size)
    (hp : B ≤ pb) (hc : CellI w pb n) (hE : Env w) (hdb : w.cell? ⟨db, 0, none⟩ = some (.int .i64 depth)) (hnb : w.cell? ⟨nb, 0, none⟩ = some (.pointer (some ⟨pb, 0, none⟩))) (hs : smlE x) (hx : ExprD.At w B N x cs) :
    Calls Tryz.prog 46 #[.agg cs.toArray, .pointer (some ⟨db, 0, none⟩), .pointer (some ⟨nb, 0, none⟩)] w (ChkX pb (lkE m x n) w) := by
  have IH := Lib.hid ih
  have HX := Lib.hid hx
  have HE := Lib.hid hE
  have HC := Lib.hid hc
  have HS := Lib.hid hs
  have HD := Lib.hid hd
  have hdd : depth ≤ 48 := by omega
  have H0 := Lib.hid (show Below w.heap.size w (w.alloc (.cells cs.toArray 34)) from belowBox w _)
  have hl := Lib.hid (show (Tryz.prog.info? 34).map (·.size) = some cs.length by rw [hx.len]; exact sizeE)
  have e1 : (w.alloc (.cells cs.toArray 34)).cell? ⟨db, 0, none⟩ = some (.int .i64 depth) := by rw [H0.out.cell (cell_lt hdb)]; exact hdb
  have e2 : (w.alloc (.cells cs.toArray 34)).cell? ⟨nb, 0, none⟩ = some (.pointer (some ⟨pb, 0, none⟩)) := by rw [H0.out.cell (cell_lt hnb)]; exact hnb
  obtain ⟨y, z, hyz⟩ : ∃ a b, lkE m x n = (a, b) := ⟨_, _, rfl⟩
  have HY := Lib.hid hyz
  clear hdb hnb hx ih hE hc hs hd hyz
  go_enter Tryz.func46, Tryz.ntmps46
  go_wp2_with (refine wpList_load_mid rfl 34 _ rfl w.heap.size 0 rfl cs _ (box_at w cs 34).range Tryz.underlying34 rfl hl.out ?_)
  refine (IH.out x _ B N cs (depth + 1) n pb (by have := HD.out; omega) h0 h1 hN h4 (Nat.le_trans hB H0.out.size) hp (HC.out.below H0.out) (HE.out.then H0.out) HS.out (HX.out.below (H0.out.mono hB))).mono ?_
  rintro e w1 ⟨rfl, hf, u, hu, hz⟩
  rw [HY.out] at hz ⊢
  have HF := Lib.hid ((FB.of_below (pb := pb) H0.out).trans hf)
  have HU := Lib.hid hu
  have HZ := Lib.hid hz
  clear hf hu hz
  go_wp2_with fail
  go_ret
  exact chk_ret HY.out HF.out HU.out HZ.out
end Go.Proofs.YtfegnmbdgdjkgaaGreatDoor
