/- The absent expression, operators' names, counts of arguments: both sides (printed by gensml.py). -/
import Derived.Test.YtfegnmbdgdjkgaaGreatSmf36
namespace Go.Proofs.YtfegnmbdgdjkgaaGreat
open Go.RowKit

theorem wpList_load_mid_e {P : Program} {ops : Array Oper} {rest : List Oper} {op : Oper} {a : Act} {w : World} {Q : Exit → Act → World → Prop} (hw : Region.wanted op (yielded ops a.tmps) = true) (ty : TypeId) (x : Operand) (ho : op.op = .load ty x)
    (b o : Nat) (hx : a.eval x = .pointer (some ⟨b, o, none⟩)) (cs : List Value) (d : TypeDesc) (hc : w.rangeAt b o cs)
    (hu : P.underlying ty = some d) (hd : d.isRow = true) (hi : (P.info? ty).map (·.size) = some cs.length)
    (h : wpList P ops Q rest (a.put op.dst (.agg cs.toArray)) w) : wpList P ops Q (op :: rest) a w :=
  wpList_step fun K hK => by rw [if_pos hw]; exact wp_load_mid ty x ho b o hx cs d hc hu hd hi (hK _ _ h)
theorem ExprD.Has.valRange {w wr : World} {B N b o : Nat} {e : ExprD} {cs vs : List Value} {aa fa : Option Addr} {ac fc : Nat} (h : ExprD.Has w B N e cs aa fa ac fc vs) (hc : CellsAt wr b o cs) : CellsAt wr b (o + 2) vs := fun j hj => by
  have hl : vs.length = 13 := h.atVal.len
  have hlen := h.len
  have hj2 : j + 2 < cs.length := by omega
  have h1 := hc (j + 2) hj2
  have h2 : vs[j]? = cs[j + 2]? := by
    rw [← h.val, List.getElem?_take, if_pos (by omega), List.getElem?_drop, Nat.add_comm]
  rw [h2, ← h1, show o + 2 + j = o + (j + 2) by omega]
theorem absB_iff (e : ExprD) : absB e = true ↔ (e.op = 30 ∧ e.name.toList = [] ∧ zeroB e.val = true ∧ (e.args.length : Int) = 0 ∧ (e.funcs.length : Int) = 0) := by
  unfold absB
  rw [decide_eq_true_eq, toList_nil_iff]
  simp only [Int.natCast_eq_zero]

set_option maxRecDepth 100000 in
set_option maxHeartbeats 1600000 in
theorem absent_r (x : ExprD) (w : World) (B N : Nat) (cs : List Value) (hB : B ≤ w.heap.size) (he : ExprD.At w B N x cs) : Calls Tryz.prog 32 #[.agg cs.toArray] w (BolR (absB x) w) := by
  obtain ⟨aa, fa, ac, fc, vs, hh⟩ := he.has
  have H0 := Lib.hid (show Below w.heap.size w (w.alloc (.cells cs.toArray 34)) from belowBox w _)
  have hvr := Lib.hid (show (w.alloc (.cells cs.toArray 34)).rangeAt w.heap.size (0 + 2) vs from (hh.valRange (box_at w cs 34)).range)
  have HV := Lib.hid (show ValD.At (w.alloc (.cells cs.toArray 34)) B N x.val vs from hh.atVal.below (H0.out.mono hB))
  have hl := Lib.hid (show (Tryz.prog.info? 30).map (·.size) = some vs.length by rw [hh.atVal.len]; exact sizeV)
  have hs0 := Lib.hid (show w.heap.size < (w.alloc (.cells cs.toArray 34)).heap.size by rw [World.size_alloc]; omega)
  have HX := Lib.hid (box_at w cs 34)
  have HO := Lib.hid (absB_iff x)
  have c0 := hh.op
  have c1 := hh.name
  have c15 := hh.args
  have c16 := hh.funcs
  clear hh he
  generalize absB x = ob at *
  generalize x.args.length = n1 at *
  generalize x.funcs.length = n2 at *
  go_enter Tryz.func32, Tryz.ntmps32
  go_wp2_with (refine wpList_load_mid_e rfl 30 _ rfl w.heap.size (0 + 2) rfl vs _ hvr.out Tryz.underlying30 rfl hl.out ?_)
  all_goals first
    | (go_ret
       refine ⟨ret_bool (bool_of ?_), H0.out⟩
       have hv := HO.out
       clear HO H0 hvr HV hl hs0 HX c0 c1 c15 c16
       go_light
       grind)
    | (refine (zero_r x.val _ B N vs HV.out).mono ?_
       rintro e w1 ⟨rfl, hb1⟩
       have H1 := Lib.hid (belowThen H0.out hb1)
       have d15 := (HX.out.then hb1 hs0.out).get0 c15
       have d16 := (HX.out.then hb1 hs0.out).get0 c16
       clear hb1
       obtain ⟨z, hz⟩ : ∃ z, zeroB x.val = z := ⟨_, rfl⟩
       rw [hz] at HO ⊢
       clear hz
       cases z
       all_goals
         go_wp2_with fail
         all_goals
           go_ret
           refine ⟨ret_bool (bool_of ?_), H1.out⟩
           have hv := HO.out
           clear HO H0 hvr HV hl hs0 HX c0 c1 c15 c16 d15 d16 H1
           go_light
           grind)

set_option maxHeartbeats 3200000 in
theorem operator_r12 (s : ByteArray) (w : World) : Calls Tryz.prog 35 #[.int .i64 12, .string s] w (fun e w' => e = .returned (.bool (operB 12 s.toList)) ∧ w' = w) := by
  have HL := Lib.hid (show operB 12 s.toList = (plusE.contains s.toList) from rfl)
  go_enter Tryz.func35, Tryz.ntmps35
  go_wp2
  all_goals
    go_ret
    refine ⟨ret_bool ?_, rfl⟩
    rw [HL.out]
    simp only [plusE, List.contains_cons, List.contains_nil]
    first | (exfalso; simp_all; done) | (simp [*]; done) | (simp_all; done) | (simp [*, Bool.or_assoc]; done) | simp_all [Bool.or_assoc]

set_option maxHeartbeats 3200000 in
theorem operator_r13 (s : ByteArray) (w : World) : Calls Tryz.prog 35 #[.int .i64 13, .string s] w (fun e w' => e = .returned (.bool (operB 13 s.toList)) ∧ w' = w) := by
  have HL := Lib.hid (show operB 13 s.toList = (compE.contains s.toList) from rfl)
  go_enter Tryz.func35, Tryz.ntmps35
  go_wp2
  all_goals
    go_ret
    refine ⟨ret_bool ?_, rfl⟩
    rw [HL.out]
    simp only [compE, List.contains_cons, List.contains_nil]
    first | (exfalso; simp_all; done) | (simp [*]; done) | (simp_all; done) | (simp [*, Bool.or_assoc]; done) | simp_all [Bool.or_assoc]

/-- May an operator have so many arguments? -/
def cntP (op : Int) (n : Nat) : Bool := decide (1 ≤ op ∧ op ≤ 29 ∧ (0 ≤ numE op → (n : Int) = numE op) ∧ (op = 21 → n ≤ 8) ∧ (op = 25 → n % 2 = 0))
theorem cnt_1 (n : Nat) : cntP 1 n = true ↔ (n : Int) = 0 := by
  unfold cntP
  rw [decide_eq_true_eq]
  simp only [numE]
  simp
  try omega
theorem cnt_2 (n : Nat) : cntP 2 n = true ↔ (n : Int) = 0 := by
  unfold cntP
  rw [decide_eq_true_eq]
  simp only [numE]
  simp
  try omega
theorem cnt_3 (n : Nat) : cntP 3 n = true ↔ (n : Int) = 0 := by
  unfold cntP
  rw [decide_eq_true_eq]
  simp only [numE]
  simp
  try omega
theorem cnt_4 (n : Nat) : cntP 4 n = true ↔ (n : Int) = 0 := by
  unfold cntP
  rw [decide_eq_true_eq]
  simp only [numE]
  simp
  try omega
theorem cnt_5 (n : Nat) : cntP 5 n = true ↔ (n : Int) = 1 := by
  unfold cntP
  rw [decide_eq_true_eq]
  simp only [numE]
  simp
  try omega
theorem cnt_6 (n : Nat) : cntP 6 n = true ↔ (n : Int) = 2 := by
  unfold cntP
  rw [decide_eq_true_eq]
  simp only [numE]
  simp
  try omega
theorem cnt_7 (n : Nat) : cntP 7 n = true ↔ (n : Int) = 3 := by
  unfold cntP
  rw [decide_eq_true_eq]
  simp only [numE]
  simp
  try omega
theorem cnt_8 (n : Nat) : cntP 8 n = true ↔ (n : Int) = 1 := by
  unfold cntP
  rw [decide_eq_true_eq]
  simp only [numE]
  simp
  try omega
theorem cnt_9 (n : Nat) : cntP 9 n = true ↔ (n : Int) = 2 := by
  unfold cntP
  rw [decide_eq_true_eq]
  simp only [numE]
  simp
  try omega
theorem cnt_10 (n : Nat) : cntP 10 n = true ↔ (n : Int) = 2 := by
  unfold cntP
  rw [decide_eq_true_eq]
  simp only [numE]
  simp
  try omega
theorem cnt_11 (n : Nat) : cntP 11 n = true ↔ (n : Int) = 1 := by
  unfold cntP
  rw [decide_eq_true_eq]
  simp only [numE]
  simp
  try omega
theorem cnt_12 (n : Nat) : cntP 12 n = true ↔ (n : Int) = 2 := by
  unfold cntP
  rw [decide_eq_true_eq]
  simp only [numE]
  simp
  try omega
theorem cnt_13 (n : Nat) : cntP 13 n = true ↔ (n : Int) = 2 := by
  unfold cntP
  rw [decide_eq_true_eq]
  simp only [numE]
  simp
  try omega
theorem cnt_14 (n : Nat) : cntP 14 n = true ↔ (n : Int) = 2 := by
  unfold cntP
  rw [decide_eq_true_eq]
  simp only [numE]
  simp
  try omega
theorem cnt_15 (n : Nat) : cntP 15 n = true ↔ (n : Int) = 2 := by
  unfold cntP
  rw [decide_eq_true_eq]
  simp only [numE]
  simp
  try omega
theorem cnt_16 (n : Nat) : cntP 16 n = true ↔ (n : Int) = 2 := by
  unfold cntP
  rw [decide_eq_true_eq]
  simp only [numE]
  simp
  try omega
theorem cnt_17 (n : Nat) : cntP 17 n = true ↔ (n : Int) = 2 := by
  unfold cntP
  rw [decide_eq_true_eq]
  simp only [numE]
  simp
  try omega
theorem cnt_18 (n : Nat) : cntP 18 n = true ↔ (n : Int) = 3 := by
  unfold cntP
  rw [decide_eq_true_eq]
  simp only [numE]
  simp
  try omega
theorem cnt_19 (n : Nat) : cntP 19 n = true ↔ (n : Int) = 3 := by
  unfold cntP
  rw [decide_eq_true_eq]
  simp only [numE]
  simp
  try omega
theorem cnt_20 (n : Nat) : cntP 20 n = true ↔ (n : Int) = 4 := by
  unfold cntP
  rw [decide_eq_true_eq]
  simp only [numE]
  simp
  try omega
theorem cnt_21 (n : Nat) : cntP 21 n = true ↔ (n : Int) ≤ 8 := by
  unfold cntP
  rw [decide_eq_true_eq]
  simp only [numE]
  simp
  try omega
theorem cnt_22 (n : Nat) : cntP 22 n = true ↔ (n : Int) = 2 := by
  unfold cntP
  rw [decide_eq_true_eq]
  simp only [numE]
  simp
  try omega
theorem cnt_23 (n : Nat) : cntP 23 n = true ↔ (n : Int) = 1 := by
  unfold cntP
  rw [decide_eq_true_eq]
  simp only [numE]
  simp
  try omega
theorem cnt_24 (n : Nat) : cntP 24 n = true ↔ (n : Int) = 1 := by
  unfold cntP
  rw [decide_eq_true_eq]
  simp only [numE]
  simp
  try omega
theorem cnt_25 (n : Nat) : cntP 25 n = true ↔ (n : Int) % 2 = 0 := by
  unfold cntP
  rw [decide_eq_true_eq]
  simp only [numE]
  simp
  try omega
theorem cnt_26 (n : Nat) : cntP 26 n = true ↔ (n : Int) = 1 := by
  unfold cntP
  rw [decide_eq_true_eq]
  simp only [numE]
  simp
  try omega
theorem cnt_27 (n : Nat) : cntP 27 n = true ↔ (n : Int) = 0 := by
  unfold cntP
  rw [decide_eq_true_eq]
  simp only [numE]
  simp
  try omega
theorem cnt_28 (n : Nat) : cntP 28 n = true ↔ (n : Int) = 2 := by
  unfold cntP
  rw [decide_eq_true_eq]
  simp only [numE]
  simp
  try omega
theorem cnt_29 (n : Nat) : cntP 29 n = true ↔ (n : Int) = 2 := by
  unfold cntP
  rw [decide_eq_true_eq]
  simp only [numE]
  simp
  try omega
theorem cnt_30 (n : Nat) : cntP 30 n = true ↔ False := by
  unfold cntP
  rw [decide_eq_true_eq]
  simp only [numE]
  simp
  try omega

/-- May the i-th argument of an operator be absent (the program's word)? -/
def optP (op : Int) (i : Nat) : Bool := decide ((op = 7 ∧ 1 ≤ (i : Int)) ∨ (op = 17 ∧ (i : Int) = 1) ∨ (op = 18 ∧ (i : Int) = 2) ∨ (op = 20 ∧ (i : Int) = 3) ∨ op = 24)
end Go.Proofs.YtfegnmbdgdjkgaaGreat
