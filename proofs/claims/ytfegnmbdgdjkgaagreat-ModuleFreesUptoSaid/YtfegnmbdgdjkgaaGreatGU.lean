/- The program's walker: find, call, the closure, node. -/
import Derived.Test.YtfegnmbdgdjkgaaGreatGT
import Derived.Test.YtfegnmbdgdjkgaaGreatGF
import Derived.Test.YtfegnmbdgdjkgaaGreatGW
import Derived.Test.YtfegnmbdgdjkgaaGreatShlf
import Derived.Lib.SlicesS
namespace Go.Proofs.YtfegnmbdgdjkgaaGreat
open Go.RowKit Go.Maps

def FindR (w : World) (e : Ending) (w' : World) : Prop := ∃ (n : Int) (b : Bool), e = .returned (.tuple #[.int .i64 n, .bool b]) ∧ Below w.heap.size w w'
set_option maxRecDepth 100000 in
set_option maxHeartbeats 1600000 in
theorem find_p (d : ScD) (s : ByteArray) (cs : List Value) (w : World) (lo B C : Nat) (hC : C ≤ 268435456) (hB : B ≤ w.heap.size) (h : ScD.At w lo B C d cs) :
    Calls Tryz.prog 68 #[.agg cs.toArray, .string s] w (FindR w) := by
  obtain ⟨va, la, ga, vc, lc, gc, rfl, _, _, hg, _, _, k3⟩ := h
  have HG := Lib.hid hg
  have hgl : d.gs.length ≤ 268435456 := by omega
  have B0 := Lib.hid (Box1.start w [.slice va d.vs.length vc, .slice la d.ls.length lc, .slice ga d.gs.length gc] 54)
  have e2 := B0.out.row.get0 (j := 2) (v := .slice ga d.gs.length gc) rfl
  clear hg k3
  go_enter Tryz.func68, Tryz.ntmps68
  go_wp2_with fail
  go_simp
  go_loopw [6] (fun i wr => ∃ k : Nat, k ≤ d.gs.length ∧ i = .int .i64 ((k : Int) - 1) ∧ Hid (wr = w.alloc (.cells #[.slice va d.vs.length vc, .slice la d.ls.length lc, .slice ga d.gs.length gc] 54))) (fun i _ => (intOf i + 1).toNat)
  case atStart => exact ⟨d.gs.length, by omega, rfl, Lib.hid rfl⟩
  case round =>
    obtain ⟨k, hk, rfl, HW⟩ := hrel
    obtain rfl := HW.out
    by_cases hk0 : k = 0
    · subst hk0
      go_wp2_with fail
      go_ret2
      exact ⟨_, _, rfl, B0.out.low⟩
    · obtain ⟨b, rfl, _, hb, hget⟩ := HG.out.get (by intro h; rw [h] at hk; simp at hk; omega)
      have hlt : k - 1 < d.gs.length := by omega
      have q0 := (B0.out.low.cell (p := ⟨b, (k - 1) * 2, none⟩) (show b < w.heap.size by omega)).trans (hget (k - 1) hlt).1
      have q1 := (B0.out.low.cell (p := ⟨b, (k - 1) * 2 + 1, none⟩) (show b < w.heap.size by omega)).trans (hget (k - 1) hlt).2
      have hk1 : (0 : Int) ≤ (k : Int) - 1 := by omega
      have hk2 : ((k : Int) - 1).toNat = k - 1 := by omega
      have hk3 : (k : Int) - 1 < (d.gs.length : Int) := by omega
      clear hget
      cases he : (d.gs[k - 1].1.toList == s.toList)
      · go_wp2_with fail
        go_roundw
        case rel => exact ⟨k - 1, by omega, by congr 1; omega, Lib.hid trivial⟩
        case measure => simp [intOf]; omega
      · go_wp2_with fail
        go_ret2
        exact ⟨_, _, rfl, B0.out.low⟩

/-- The walker that finds free variables: nothing is resolved, the closure is told. -/
def wlkC (sb : Nat) : List Value := [.nilFunc, .func (.func 11) #[] #[.pointer (some ⟨sb, 0, none⟩)]]
def MaxC (w : World) : Prop := ∃ m : Int, w.cell? ⟨0, 0, none⟩ = some (.int .i64 m)
theorem MaxC.then {w w' : World} (h : MaxC w) (hb : Below w.heap.size w w') : MaxC w' := by
  obtain ⟨m, hm⟩ := h
  exact ⟨m, (hb.cell (World.block_lt_of_cell? w _ hm)).trans hm⟩
/-- Three boxes. -/
structure Box3 (w u : World) (xa xb xc : List Value) : Prop where
  r1 : CellsAt u w.heap.size 0 xa
  r2 : CellsAt u (w.heap.size + 1) 0 xb
  r3 : CellsAt u (w.heap.size + 2) 0 xc
  low : Below w.heap.size w u
  size : w.heap.size + 3 ≤ u.heap.size
theorem Box3.start (w : World) (xa xb xc : List Value) (t1 t2 t3 : TypeId) : Box3 w (((w.alloc (.cells xa.toArray t1)).alloc (.cells xb.toArray t2)).alloc (.cells xc.toArray t3)) xa xb xc := by
  have s1 : (w.alloc (.cells xa.toArray t1)).heap.size = w.heap.size + 1 := World.size_alloc _ _
  have s2 : ((w.alloc (.cells xa.toArray t1)).alloc (.cells xb.toArray t2)).heap.size = w.heap.size + 2 := by rw [World.size_alloc, s1]
  refine ⟨((box_at w xa t1).then (belowBox _ _) (by rw [s1]; omega)).then (belowBox _ _) (by rw [s2]; omega), ?_, ?_, belowThen (belowThen (belowBox w _) (belowBox _ _)) (belowBox _ _), by rw [World.size_alloc, s2]; omega⟩
  · have h := (box_at (w.alloc (.cells xa.toArray t1)) xb t2).then (belowBox _ (.cells xc.toArray t3)) (by rw [s2, s1]; omega)
    rw [s1] at h
    exact h
  · have h := box_at ((w.alloc (.cells xa.toArray t1)).alloc (.cells xb.toArray t2)) xc t3
    rw [s2] at h
    exact h
theorem Box3.below {w u u' : World} {xa xb xc : List Value} (h : Box3 w u xa xb xc) (hb : Below u.heap.size u u') : Box3 w u' xa xb xc :=
  ⟨h.r1.then hb (by have := h.size; omega), h.r2.then hb (by have := h.size; omega), h.r3.then hb (by have := h.size; omega), belowThen h.low hb, Nat.le_trans h.size hb.size⟩
theorem eqIn_res (d : Nat) (w : World) : (Op.equalIn (d + 1) 46 .nilFunc .nilFunc).run Tryz.prog w = .ok true w := by
  simp [Op.equalIn, run_underlying Tryz.underlying46]
theorem eqIn_fre (d : Nat) (f : Fn) (a b : Array Value) (w : World) : (Op.equalIn (d + 1) 45 (.func f a b) .nilFunc).run Tryz.prog w = .ok false w := by
  simp [Op.equalIn, run_underlying Tryz.underlying45]
theorem eql_res (w : World) : (binOp .eql 46 .nilFunc .nilFunc).run Tryz.prog w = .ok (.bool true) w := by
  simp only [binOp]
  simp [show (Op.equal 46 .nilFunc .nilFunc).run Tryz.prog w = .ok true w from eqIn_res 9999 w]
theorem eql_fre (f : Fn) (a b : Array Value) (w : World) : (binOp .eql 45 (.func f a b) .nilFunc).run Tryz.prog w = .ok (.bool false) w := by
  simp only [binOp]
  simp [show (Op.equal 45 (.func f a b) .nilFunc).run Tryz.prog w = .ok false w from eqIn_fre 9999 f a b w]
def CalR (nm : ByteArray) (w : World) (e : Ending) (w' : World) : Prop := e = .returned (.tuple #[.string nm, .int .i64 0]) ∧ Below w.heap.size w w'
set_option maxRecDepth 100000 in
set_option maxHeartbeats 3200000 in
theorem call_p (sb : Nat) (x : ExprD) (xs : List Value) (d : ScD) (cs : List Value) (w : World) (lo B C N : Nat) (hC : C ≤ 268435456) (hN : N ≤ 268435456) (hB : B ≤ w.heap.size) (hM : MaxC w) (h : ScD.At w lo B C d cs) (hx : ExprD.At w B N x xs) :
    Calls Tryz.prog 41 #[.agg (wlkC sb).toArray, .agg xs.toArray, .agg cs.toArray] w (CalR x.name w) := by
  obtain ⟨aa, fa, ac, fc, vs, hh⟩ := hx.has
  have c1 := hh.name
  have c15 := hh.args
  have hal : x.args.length ≤ N := hh.own.2.2.1
  have hnm : x.name.size ≤ N := hh.own.2.1
  have HD := Lib.hid h
  have HM := Lib.hid hM
  have hsz := Lib.hid (show (Tryz.prog.info? 54).map (·.size) = some cs.length by rw [h.len]; kernel_rfl)
  have B0 := Lib.hid (Box3.start w (wlkC sb) xs cs 48 34 54)
  have e1 := B0.out.r2.get0 c1
  clear hh hx h hM
  go_enter Tryz.func41, Tryz.ntmps41
  go_wp2_with (refine wpList_load_mid rfl 54 _ rfl (w.heap.size + 1 + 1) 0 rfl cs _ B0.out.r3.range Tryz.underlying54 rfl hsz.out ?_)
  refine (find_p d x.name cs _ lo B C hC (Nat.le_trans hB B0.out.low.size) (HD.out.keep (Kept.of_below (B0.out.low.mono hB)))).mono ?_
  rintro e u1 ⟨n, b, rfl, hb1⟩
  have B1 := Lib.hid (B0.out.below hb1)
  clear hb1 e1
  have e1 := B1.out.r2.get0 c1
  have e15 := B1.out.r2.get0 c15
  have w0 := B1.out.r1.get0 (j := 0) (v := .nilFunc) rfl
  have w1 := B1.out.r1.get0 (j := 1) (v := .func (.func 11) #[] #[.pointer (some ⟨sb, 0, none⟩)]) rfl
  have qr := eql_res u1
  have qf := eql_fre (.func 11) #[] #[.pointer (some ⟨sb, 0, none⟩)] u1
  cases b
  · go_wp2_with fail
    go_ret2
    exact ⟨rfl, B1.out.low⟩
  · obtain ⟨m, hm⟩ := HM.out.then B1.out.low
    have HSC := Lib.hid (show x.name.size < 4294967281 by omega)
    have HMM := Lib.hid hm
    clear hm
    go_wp2_with fail
    refine (Tryz.strings_Contains x.name ⟨#[58, 58]⟩ m u1 HSC.out HMM.out).mono ?_
    rintro e u2 ⟨rfl, rfl⟩
    cases hc : Lib.contains x.name.data.toList [58, 58]
    all_goals go_wp2_with fail
    all_goals (go_ret2; exact ⟨rfl, B1.out.low⟩)
end Go.Proofs.YtfegnmbdgdjkgaaGreat

/- The set that the walker fills, the closure that fills it, a node's name. -/
namespace Go.Proofs.YtfegnmbdgdjkgaaGreat
open Go.RowKit Go.Maps

/-- Block mb of w is a map whose keys are just these strings. -/
def SetH (w : World) (mb : Nat) (l : List ByteArray) : Prop :=
  ∃ D : DataW Unit, w.ownsMap Tryz.prog 9 (plainElem Tryz.prog 4) mb l.length D ∧ IsMap D ∧ ∀ s : List UInt8, Maps.has D (.string s) = decide (s ∈ l.map (·.data.toList))
theorem SetH.made (w : World) : SetH (w.alloc (.map #[] 0)) w.heap.size [] :=
  ⟨.map [], World.ownsMap_made _ _ _ _, isMap_empty, fun _ => rfl⟩
theorem SetH.lt {w : World} {mb : Nat} {l : List ByteArray} (h : SetH w mb l) : mb < w.heap.size := by
  obtain ⟨D, h1, _⟩ := h
  exact h1.lt
theorem SetH.block {w w' : World} {mb : Nat} {l : List ByteArray} (h : SetH w mb l) (hb : w'.heap[mb]? = w.heap[mb]?) : SetH w' mb l := by
  obtain ⟨D, ⟨es, clock, hh, r⟩, h2, h3⟩ := h
  exact ⟨D, ⟨es, clock, hb.trans hh, r⟩, h2, h3⟩
theorem SetH.below {w w' : World} {mb B : Nat} {l : List ByteArray} (h : SetH w mb l) (hb : Below B w w') (hlt : mb < B) : SetH w' mb l := h.block (hb.block mb hlt)
theorem SetH.later {w w' : World} {mb : Nat} {l : List ByteArray} (h : SetH w mb l) (hb : Below w.heap.size w w') : SetH w' mb l := h.below hb h.lt
theorem FB.of_grown {mb : Nat} {w w' : World} (h : w.grownBy w' (some mb)) : FB mb w w' := ⟨h.os, h.tape, h.output, h.size, fun k hk hn => h.block k hk (by simpa using hn)⟩
theorem FB.kept {mb lo B : Nat} {w w' : World} (h : FB mb w w') (hl : mb < lo) (hB : B ≤ w.heap.size) : Kept lo B w w' := fun k h1 h2 => h.block k (by omega) (by omega)
theorem FB.cell {mb b o : Nat} {w w' : World} (h : FB mb w w') (hb : b < w.heap.size) (hn : b ≠ mb) : w'.cell? ⟨b, o, none⟩ = w.cell? ⟨b, o, none⟩ := by
  simp only [World.cell?]
  rw [h.block b hb hn]
theorem wpList_put_setH {w : World} {ops : Array Oper} {rest : List Oper} {o : Oper} {a : Act} {Q : Exit → Act → World → Prop} (hg : o.guard = none) (m x v : Operand) (t : TypeId) (hop : o.op = Op.mapUpdate t m x v)
    {b : Nat} {l : List ByteArray} (ht : Tryz.prog.underlying t = some (.map 9 4))
    (hm : a.eval m = .map (some b)) (h : SetH w b l) (hn : l.length < maxLen) (s : ByteArray) (hx : a.eval x = .string s) (hv : a.eval v = .bool true) (hs : s.size ≤ maxLen)
    (hk : ∀ w', SetH w' b (l ++ [s]) → w.grownBy w' (some b) → wpList Tryz.prog ops Q rest (a.put o.dst undef) w') : wpList Tryz.prog ops Q (o :: rest) a w := by
  obtain ⟨D, h1, h2, h3⟩ := h
  refine wpList_mapUpdate_own w hg m x v t hop 9 4 (string_keyed Tryz.underlying9) ht _ b l.length D hm h1 hn _ _ (.string s.data.toList) hx hv (keyOf_str Tryz.underlying9 hs) _ [] (plainElem_bool Tryz.underlying4 true) (fun w' r1 r2 => hk w' ⟨_, by simpa using r1, h2.put _ _, fun q => ?_⟩ r2)
  by_cases hq : q = s.data.toList
  · subst hq
    rw [has_put_same h2 (isKeyLit_string _)]
    simp
  · rw [has_put_other (by simpa using hq), h3]
    simp [hq]

def ClsR (mb : Nat) (l : List ByteArray) (w : World) (e : Ending) (w' : World) : Prop := e = .returned (.tuple #[]) ∧ SetH w' mb l ∧ FB mb w w'
set_option maxRecDepth 100000 in
theorem free1_p (s : ByteArray) (sb mb : Nat) (l : List ByteArray) (w : World) (hs : s.size ≤ maxLen) (hl : l.length < maxLen) (hb : w.cell? ⟨sb, 0, none⟩ = some (.map (some mb))) (h : SetH w mb l) :
    Calls Tryz.prog 11 #[.string s, .pointer (some ⟨sb, 0, none⟩)] w (ClsR mb (l ++ [s]) w) := by
  have H := Lib.hid h
  clear h
  go_enter Tryz.func11, Tryz.ntmps11
  go_wp2_with (refine wpList_put_setH rfl _ _ _ 44 rfl Tryz.underlying44 rfl H.out hl s rfl rfl hs ?_)
  intro w' h1 h2
  go_end0
  exact ⟨rfl, h1, FB.of_grown h2⟩

theorem memB_contains (l : List ByteArray) (s : ByteArray) : Lib.containsS l s = memB l s := by
  unfold memB
  rw [Bool.eq_iff_iff, Lib.containsS_iff, List.any_eq_true]
  constructor
  · intro h
    exact ⟨s, h, by simp⟩
  · rintro ⟨t, h1, h2⟩
    obtain rfl : t = s := ByteArray.ext (Array.toList_inj.1 (by rw [← ByteArray.toList_eq, ← ByteArray.toList_eq]; simpa using h2))
    exact h1
theorem contains_p (l : List ByteArray) (s : ByteArray) (a : Option Addr) (c : Nat) (w : World) (lo B : Nat) (hl : l.length ≤ 1073741824) (h : NmsAt w lo B l a) :
    Calls Tryz.prog 42 #[.slice a l.length c, .string s] w (fun e w' => e = .returned (.bool (memB l s)) ∧ w' = w) := by
  rcases h with rfl | ⟨b, rfl, h2, h3, h4⟩
  · exact (Tryz.slices_Contains_string_empty a c s w).mono fun e w' h => h
  · refine (Tryz.slices_Contains_string b 0 l.length c l s w (Nat.le_refl _) (by omega) (fun j hj => ?_)).mono fun e w' h => ?_
    · rw [Nat.zero_add, h4 j _ (List.getElem?_eq_getElem hj), List.getD_eq_getElem?_getD, List.getElem?_eq_getElem hj]
      rfl
    · rw [List.take_length, memB_contains] at h
      exact h
/-- Behind a node: its name; if it is a free variable it is in the set. -/
def NodR (mb : Nat) (nm : ByteArray) (l : List ByteArray) (w : World) (e : Ending) (w' : World) : Prop := e = .returned (.tuple #[.string nm, .int .i64 0]) ∧ SetH w' mb l ∧ FB mb w w'
theorem ndV_no {e : ExprD} {vs : List ByteArray} (h : ¬ (e.op = 4 ∧ memB vs e.name = false)) : ndV e vs = [] := by unfold ndV; rw [if_neg h]
theorem ndV_yes {e : ExprD} {vs : List ByteArray} (h : e.op = 4 ∧ memB vs e.name = false) : ndV e vs = [e.name] := by unfold ndV; rw [if_pos h]
set_option maxRecDepth 100000 in
set_option maxHeartbeats 3200000 in
theorem node_p (sb mb : Nat) (x : ExprD) (xs : List Value) (d : ScD) (cs : List Value) (l : List ByteArray) (w : World) (lo B B1 C N : Nat) (hC : C ≤ 268435456) (hN : N ≤ 268435456) (hB : B ≤ w.heap.size) (hB1 : B1 ≤ w.heap.size) (hM : MaxC w)
    (h : ScD.At w lo B C d cs) (hx : ExprD.At w B1 N x xs) (hb : w.cell? ⟨sb, 0, none⟩ = some (.map (some mb))) (hl : l.length < maxLen) (hS : SetH w mb l) :
    Calls Tryz.prog 20 #[.agg (wlkC sb).toArray, .agg xs.toArray, .agg cs.toArray] w (NodR mb x.name (l ++ ndV x d.vs) w) := by
  have HX := Lib.hid hx
  obtain ⟨aa, fa, ac, fc, vs, hh⟩ := hx.has
  have c0 := hh.op
  have c1 := hh.name
  have hnm : x.name.size ≤ N := hh.own.2.1
  have HD := Lib.hid h
  have HM := Lib.hid hM
  have HS := Lib.hid hS
  have HB := Lib.hid hb
  have hsz := Lib.hid (show (Tryz.prog.info? 54).map (·.size) = some cs.length by rw [h.len]; kernel_rfl)
  have hsx := Lib.hid (show (Tryz.prog.info? 34).map (·.size) = some xs.length by rw [hx.len]; kernel_rfl)
  have hsw := Lib.hid (show (Tryz.prog.info? 48).map (·.size) = some (wlkC sb).length by kernel_rfl)
  have B0 := Lib.hid (Box3.start w (wlkC sb) xs cs 48 34 54)
  have e0 := B0.out.r2.get0 c0
  have e1 := B0.out.r2.get0 c1
  have w1 := B0.out.r1.get0 (j := 1) (v := .func (.func 11) #[] #[.pointer (some ⟨sb, 0, none⟩)]) rfl
  clear hh hx h hM hS hb
  by_cases h21 : x.op = 21
  · have HV := Lib.hid (ndV_no (e := x) (vs := d.vs) (by rw [h21]; omega))
    rw [h21] at e0
    clear h21
    go_enter Tryz.func20, Tryz.ntmps20
    go_wp2_with (first
      | (refine wpList_load_mid rfl 54 _ rfl (w.heap.size + 1 + 1) 0 rfl cs _ B0.out.r3.range Tryz.underlying54 rfl hsz.out ?_)
      | (refine wpList_load_mid rfl 34 _ rfl (w.heap.size + 1) 0 rfl xs _ B0.out.r2.range Tryz.underlying34 rfl hsx.out ?_)
      | (refine wpList_load_mid rfl 48 _ rfl (w.heap.size) 0 rfl (wlkC sb) _ B0.out.r1.range Tryz.underlying48 rfl hsw.out ?_))
    refine (call_p sb x xs d cs _ lo w.heap.size C N hC hN B0.out.low.size (HM.out.then B0.out.low) ((HD.out.keep (Kept.of_below (B0.out.low.mono hB))).mono hB (Nat.le_refl _)) (ExprD.At.mono hB1 _ (ExprD.At.below (B0.out.low.mono hB1) _ HX.out))).mono ?_
    rintro e u1 ⟨rfl, hb1⟩
    have hf := Lib.hid (FB.of_below (pb := mb) (belowThen B0.out.low hb1))
    have hs := Lib.hid (HS.out.later (belowThen B0.out.low hb1))
    clear hb1
    go_wp2_with fail
    go_ret2
    exact ⟨rfl, by rw [HV.out, List.append_nil]; exact hs.out, hf.out⟩
  · have d21 : (x.op == 21) = false := by simpa using h21
    clear h21
    by_cases h4 : x.op = 4
    · have HV := Lib.hid (show memB d.vs x.name = false → ndV x d.vs = [x.name] from fun h => ndV_yes ⟨h4, h⟩)
      have HV2 := Lib.hid (show memB d.vs x.name = true → ndV x d.vs = [] from fun h => ndV_no fun h' => by rw [h] at h'; exact absurd h'.2 (by decide))
      rw [h4] at e0
      clear h4 d21
      obtain ⟨va, la, ga, vc, lc, gc, rfl, hv, _, _, k1, _⟩ := HD.out
      have HN := Lib.hid (hv.keep (Kept.of_below (B0.out.low.mono hB)))
      have hvl : d.vs.length ≤ 1073741824 := by omega
      have e2 := B0.out.r3.get0 (j := 0) (v := .slice va d.vs.length vc) rfl
      have qf := eql_fre (.func 11) #[] #[.pointer (some ⟨sb, 0, none⟩)] (((w.alloc (.cells (wlkC sb).toArray 48)).alloc (.cells xs.toArray 34)).alloc (.cells [.slice va d.vs.length vc, .slice la d.ls.length lc, .slice ga d.gs.length gc].toArray 54))
      clear hv k1
      go_enter Tryz.func20, Tryz.ntmps20
      go_wp2_with fail
      refine (contains_p d.vs x.name va vc _ lo B hvl HN.out).mono ?_
      rintro e u1 ⟨rfl, rfl⟩
      cases hm : memB d.vs x.name
      · have HS1 := Lib.hid (HS.out.later B0.out.low)
        have HB1 := Lib.hid ((B0.out.low.cell (World.block_lt_of_cell? w _ HB.out)).trans HB.out)
        have HV1 := Lib.hid (HV.out hm)
        clear hm
        go_wp2_with fail
        refine (free1_p x.name sb mb l _ (by unfold maxLen; omega) hl HB1.out HS1.out).mono ?_
        rintro e u2 ⟨rfl, hs2, hf2⟩
        have HS2 := Lib.hid hs2
        have HF2 := Lib.hid ((FB.of_below (pb := mb) B0.out.low).trans hf2)
        have e3 := (hf2.cell (b := w.heap.size + 1) (o := 1) (by have := B0.out.size; omega) (by have := HS.out.lt; omega)).trans e1
        clear hs2 hf2 e0 e1 e2 qf w1
        go_wp2_with fail
        go_ret2
        exact ⟨rfl, by rw [HV1.out]; exact HS2.out, HF2.out⟩
      · have HV1 := Lib.hid (HV2.out hm)
        clear hm
        go_wp2_with fail
        go_ret2
        exact ⟨rfl, by rw [HV1.out, List.append_nil]; exact HS.out.later B0.out.low, FB.of_below B0.out.low⟩
    · have d4 : (x.op == 4) = false := by simpa using h4
      have HV := Lib.hid (ndV_no (e := x) (vs := d.vs) (fun h => h4 h.1))
      have qf := eql_fre (.func 11) #[] #[.pointer (some ⟨sb, 0, none⟩)] (((w.alloc (.cells (wlkC sb).toArray 48)).alloc (.cells xs.toArray 34)).alloc (.cells cs.toArray 54))
      clear h4
      by_cases h27 : x.op = 27
      · rw [h27] at e0
        clear h27 d4 d21
        go_enter Tryz.func20, Tryz.ntmps20
        go_wp2_with fail
        go_ret2
        exact ⟨rfl, by rw [HV.out, List.append_nil]; exact HS.out.later B0.out.low, FB.of_below B0.out.low⟩
      · have d27 : (x.op == 27) = false := by simpa using h27
        clear h27
        go_enter Tryz.func20, Tryz.ntmps20
        go_wp2_with fail
        go_ret2
        exact ⟨rfl, by rw [HV.out, List.append_nil]; exact HS.out.later B0.out.low, FB.of_below B0.out.low⟩
end Go.Proofs.YtfegnmbdgdjkgaaGreat
