/- The operators of comparison: builtin.Compare, datakitref37.Compare. -/
import Derived.Test.YtmjfggadehkbjaaGreatDoorOrp07
import Derived.Test.YtmjfggadehkbjaaGreatDoorOrr07
import Derived.Test.YtmjfggadehkbjaaGreatDoorXK
import Derived.Test.YtmjfggadehkbjaaGreatDoorSam07
namespace Go.Proofs.YtmjfggadehkbjaaGreatDoor
open Go.RowKit

def cmqD (op : ByteArray) (c : Int) : Bool × Int :=
   if op.toList = [61, 61] then ((c == 0), 0)
  else if op.toList = [33, 61] then ((c != 0), 0)
  else if op.toList = [60] then (decide (c < 0), 0)
  else if op.toList = [60, 61] then (decide (c ≤ 0), 0)
  else if op.toList = [62] then (decide (c > 0), 0)
  else if op.toList = [62, 61] then (decide (c ≥ 0), 0)
  else (false, 1)
def CmqR (r : Bool × Int) (w : World) (e : Ending) (w' : World) : Prop := e = .returned (.tuple #[.bool r.1, .int .i64 r.2]) ∧ Below w.heap.size w w'
set_option maxRecDepth 100000 in
set_option maxHeartbeats 3200000 in
theorem cmq_p (op : ByteArray) (v u : ValD) (w : World) (B N : Nat) (cs ds : List Value) (h1 : okC 48 v) (h2 : okC 48 u) (hN : N ≤ 4294967296) (hB : B ≤ w.heap.size) (hv : ValD.At w B N v cs) (hu : ValD.At w B N u ds) :
    Calls Tryz.prog 6 #[.string op, .agg cs.toArray, .agg ds.toArray] w (CmqR (cmqD op (cmpD 48 v u)) w) := by
  have D0 := Lib.hid (duo_boxes w cs ds 30)
  have hl1 := Lib.hid (show (Tryz.prog.info? 30).map (·.size) = some cs.length by rw [hv.len]; exact sizeV)
  have hl2 := Lib.hid (show (Tryz.prog.info? 30).map (·.size) = some ds.length by rw [hu.len]; exact sizeV)
  have HC := Lib.hid (vcmp_p 48 (by omega) v u _ B N cs ds h1 h2 hN (Nat.le_trans hB D0.out.below.size) (hv.below (D0.out.below.mono hB)) (hu.below (D0.out.below.mono hB)))
  obtain ⟨c, hc⟩ : ∃ c, c = cmpD 48 v u := ⟨_, rfl⟩
  rw [← hc] at HC ⊢
  clear hv hu h1 h2 hc
  go_enter Tryz.func6, Tryz.ntmps6
  go_wp2_with (first
    | ((with_reducible show wpList _ _ _ (⟨some 9, _, _, _, _, _⟩ :: _) _ _); refine wpList_load_mid rfl 30 _ rfl w.heap.size 0 rfl cs _ D0.out.one.range Tryz.underlying30 rfl hl1.out ?_)
    | ((with_reducible show wpList _ _ _ (⟨some 10, _, _, _, _, _⟩ :: _) _ _); refine wpList_load_mid rfl 30 _ rfl (w.heap.size + 1) 0 rfl ds _ D0.out.two.range Tryz.underlying30 rfl hl2.out ?_))
  refine HC.out.mono ?_
  rintro e w1 ⟨rfl, hb⟩
  have HB1 := Lib.hid (belowThen D0.out.below hb)
  clear hb HC D0 hl1 hl2
  by_cases a0 : op.toList = [61, 61]
  · have HQ := Lib.hid (show cmqD op c = ((c == 0), 0) by unfold cmqD;  rw [if_pos a0])
    have q0 : (op.toList == [61, 61]) = true := by rw [a0]; rfl
    clear a0
    go_wp2_with fail
    go_ret2
    exact ⟨by rw [HQ.out]; try rfl, HB1.out⟩
  have q0 : (op.toList == [61, 61]) = false := beq_eq_false_iff_ne.2 a0
  by_cases a1 : op.toList = [33, 61]
  · have HQ := Lib.hid (show cmqD op c = ((c != 0), 0) by unfold cmqD; rw [if_neg a0]; rw [if_pos a1])
    have q1 : (op.toList == [33, 61]) = true := by rw [a1]; rfl
    clear a0 a1
    go_wp2_with fail
    go_ret2
    exact ⟨by rw [HQ.out]; try rfl, HB1.out⟩
  have q1 : (op.toList == [33, 61]) = false := beq_eq_false_iff_ne.2 a1
  by_cases a2 : op.toList = [60]
  · have HQ := Lib.hid (show cmqD op c = (decide (c < 0), 0) by unfold cmqD; rw [if_neg a0]; rw [if_neg a1]; rw [if_pos a2])
    have q2 : (op.toList == [60]) = true := by rw [a2]; rfl
    clear a0 a1 a2
    go_wp2_with fail
    go_ret2
    exact ⟨by rw [HQ.out]; try rfl, HB1.out⟩
  have q2 : (op.toList == [60]) = false := beq_eq_false_iff_ne.2 a2
  by_cases a3 : op.toList = [60, 61]
  · have HQ := Lib.hid (show cmqD op c = (decide (c ≤ 0), 0) by unfold cmqD; rw [if_neg a0]; rw [if_neg a1]; rw [if_neg a2]; rw [if_pos a3])
    have q3 : (op.toList == [60, 61]) = true := by rw [a3]; rfl
    clear a0 a1 a2 a3
    go_wp2_with fail
    go_ret2
    exact ⟨by rw [HQ.out]; try rfl, HB1.out⟩
  have q3 : (op.toList == [60, 61]) = false := beq_eq_false_iff_ne.2 a3
  by_cases a4 : op.toList = [62]
  · have HQ := Lib.hid (show cmqD op c = (decide (c > 0), 0) by unfold cmqD; rw [if_neg a0]; rw [if_neg a1]; rw [if_neg a2]; rw [if_neg a3]; rw [if_pos a4])
    have q4 : (op.toList == [62]) = true := by rw [a4]; rfl
    clear a0 a1 a2 a3 a4
    go_wp2_with fail
    go_ret2
    exact ⟨by rw [HQ.out]; try rfl, HB1.out⟩
  have q4 : (op.toList == [62]) = false := beq_eq_false_iff_ne.2 a4
  by_cases a5 : op.toList = [62, 61]
  · have HQ := Lib.hid (show cmqD op c = (decide (c ≥ 0), 0) by unfold cmqD; rw [if_neg a0]; rw [if_neg a1]; rw [if_neg a2]; rw [if_neg a3]; rw [if_neg a4]; rw [if_pos a5])
    have q5 : (op.toList == [62, 61]) = true := by rw [a5]; rfl
    clear a0 a1 a2 a3 a4 a5
    go_wp2_with fail
    go_ret2
    exact ⟨by rw [HQ.out]; try rfl, HB1.out⟩
  have q5 : (op.toList == [62, 61]) = false := beq_eq_false_iff_ne.2 a5
  have HQ := Lib.hid (show cmqD op c = (false, 1) by unfold cmqD; rw [if_neg a0]; rw [if_neg a1]; rw [if_neg a2]; rw [if_neg a3]; rw [if_neg a4]; rw [if_neg a5];)
  clear a0 a1 a2 a3 a4 a5
  go_wp2_with fail
  go_ret2
  exact ⟨by rw [HQ.out]; try rfl, HB1.out⟩
set_option maxRecDepth 100000 in
set_option maxHeartbeats 3200000 in
theorem cmq_r (op : ByteArray) (v u : ValD) (w : World) (B N : Nat) (cs ds : List Value) (h1 : okC 48 v) (h2 : okC 48 u) (hN : N ≤ 4294967296) (hB : B ≤ w.heap.size) (hv : ValD.At w B N v cs) (hu : ValD.At w B N u ds) :
    Calls Tryz.prog 7 #[.string op, .agg cs.toArray, .agg ds.toArray] w (CmqR (cmqD op (cmpD 48 v u)) w) := by
  have D0 := Lib.hid (duo_boxes w cs ds 30)
  have hl1 := Lib.hid (show (Tryz.prog.info? 30).map (·.size) = some cs.length by rw [hv.len]; exact sizeV)
  have hl2 := Lib.hid (show (Tryz.prog.info? 30).map (·.size) = some ds.length by rw [hu.len]; exact sizeV)
  have HC := Lib.hid (cmp_r 48 v u _ B N cs ds h1 h2 hN (Nat.le_trans hB D0.out.below.size) (hv.below (D0.out.below.mono hB)) (hu.below (D0.out.below.mono hB)))
  obtain ⟨c, hc⟩ : ∃ c, c = cmpD 48 v u := ⟨_, rfl⟩
  rw [← hc] at HC ⊢
  clear hv hu h1 h2 hc
  go_enter Tryz.func7, Tryz.ntmps7
  go_wp2_with (first
    | ((with_reducible show wpList _ _ _ (⟨some 9, _, _, _, _, _⟩ :: _) _ _); refine wpList_load_mid rfl 30 _ rfl w.heap.size 0 rfl cs _ D0.out.one.range Tryz.underlying30 rfl hl1.out ?_)
    | ((with_reducible show wpList _ _ _ (⟨some 10, _, _, _, _, _⟩ :: _) _ _); refine wpList_load_mid rfl 30 _ rfl (w.heap.size + 1) 0 rfl ds _ D0.out.two.range Tryz.underlying30 rfl hl2.out ?_))
  refine HC.out.mono ?_
  rintro e w1 ⟨rfl, hb⟩
  have HB1 := Lib.hid (belowThen D0.out.below hb)
  clear hb HC D0 hl1 hl2
  by_cases a0 : op.toList = [61, 61]
  · have HQ := Lib.hid (show cmqD op c = ((c == 0), 0) by unfold cmqD;  rw [if_pos a0])
    have q0 : (op.toList == [61, 61]) = true := by rw [a0]; rfl
    clear a0
    go_wp2_with fail
    go_ret2
    exact ⟨by rw [HQ.out]; try rfl, HB1.out⟩
  have q0 : (op.toList == [61, 61]) = false := beq_eq_false_iff_ne.2 a0
  by_cases a1 : op.toList = [33, 61]
  · have HQ := Lib.hid (show cmqD op c = ((c != 0), 0) by unfold cmqD; rw [if_neg a0]; rw [if_pos a1])
    have q1 : (op.toList == [33, 61]) = true := by rw [a1]; rfl
    clear a0 a1
    go_wp2_with fail
    go_ret2
    exact ⟨by rw [HQ.out]; try rfl, HB1.out⟩
  have q1 : (op.toList == [33, 61]) = false := beq_eq_false_iff_ne.2 a1
  by_cases a2 : op.toList = [60]
  · have HQ := Lib.hid (show cmqD op c = (decide (c < 0), 0) by unfold cmqD; rw [if_neg a0]; rw [if_neg a1]; rw [if_pos a2])
    have q2 : (op.toList == [60]) = true := by rw [a2]; rfl
    clear a0 a1 a2
    go_wp2_with fail
    go_ret2
    exact ⟨by rw [HQ.out]; try rfl, HB1.out⟩
  have q2 : (op.toList == [60]) = false := beq_eq_false_iff_ne.2 a2
  by_cases a3 : op.toList = [60, 61]
  · have HQ := Lib.hid (show cmqD op c = (decide (c ≤ 0), 0) by unfold cmqD; rw [if_neg a0]; rw [if_neg a1]; rw [if_neg a2]; rw [if_pos a3])
    have q3 : (op.toList == [60, 61]) = true := by rw [a3]; rfl
    clear a0 a1 a2 a3
    go_wp2_with fail
    go_ret2
    exact ⟨by rw [HQ.out]; try rfl, HB1.out⟩
  have q3 : (op.toList == [60, 61]) = false := beq_eq_false_iff_ne.2 a3
  by_cases a4 : op.toList = [62]
  · have HQ := Lib.hid (show cmqD op c = (decide (c > 0), 0) by unfold cmqD; rw [if_neg a0]; rw [if_neg a1]; rw [if_neg a2]; rw [if_neg a3]; rw [if_pos a4])
    have q4 : (op.toList == [62]) = true := by rw [a4]; rfl
    clear a0 a1 a2 a3 a4
    go_wp2_with fail
    go_ret2
    exact ⟨by rw [HQ.out]; try rfl, HB1.out⟩
  have q4 : (op.toList == [62]) = false := beq_eq_false_iff_ne.2 a4
  by_cases a5 : op.toList = [62, 61]
  · have HQ := Lib.hid (show cmqD op c = (decide (c ≥ 0), 0) by unfold cmqD; rw [if_neg a0]; rw [if_neg a1]; rw [if_neg a2]; rw [if_neg a3]; rw [if_neg a4]; rw [if_pos a5])
    have q5 : (op.toList == [62, 61]) = true := by rw [a5]; rfl
    clear a0 a1 a2 a3 a4 a5
    go_wp2_with fail
    go_ret2
    exact ⟨by rw [HQ.out]; try rfl, HB1.out⟩
  have q5 : (op.toList == [62, 61]) = false := beq_eq_false_iff_ne.2 a5
  have HQ := Lib.hid (show cmqD op c = (false, 1) by unfold cmqD; rw [if_neg a0]; rw [if_neg a1]; rw [if_neg a2]; rw [if_neg a3]; rw [if_neg a4]; rw [if_neg a5];)
  clear a0 a1 a2 a3 a4 a5
  go_wp2_with fail
  go_ret2
  exact ⟨by rw [HQ.out]; try rfl, HB1.out⟩
end Go.Proofs.YtmjfggadehkbjaaGreatDoor

/- Numbers as results and their negation: decimal.Neg, datakitref02.Neg, value.Num, datakitref07.Num, builtin.number, datakitref37.number, builtin.Neg, datakitref37.Neg. -/
namespace Go.Proofs.YtmjfggadehkbjaaGreatDoor
open Go.RowKit

def negB (d : DecD) : Bool := if d.digits.size = 0 then d.neg else !d.neg
def negD (d : DecD) : DecD := ⟨negB d, d.digits, d.exp⟩
def NegR (d : DecD) (w : World) (e : Ending) (w' : World) : Prop := e = .returned (.agg #[.bool (negB d), .string d.digits, .int .i64 d.exp]) ∧ Below w.heap.size w w'
theorem two_new (w : World) (o p : Obj) : ((w.alloc o).alloc p).heap[w.heap.size + 1]? = some p := by
  have h := heap_alloc_new (w.alloc o) p
  rw [World.size_alloc] at h
  exact h
set_option maxRecDepth 100000 in
theorem neg_p (d : DecD) (w : World) : Calls Tryz.prog 18 #[.agg #[.bool d.neg, .string d.digits, .int .i64 d.exp]] w (NegR d w) := by
  obtain ⟨n, s, x⟩ := d
  by_cases h : s.size = 0
  · have HN := Lib.hid (show negB ⟨n, s, x⟩ = n by unfold negB; rw [if_pos h])
    have hd := toList_nil h
    have Z0 := Lib.hid (two_new w (.cells #[.bool n, .string s, .int .i64 x] 23) (.cells #[.bool n, .string s, .int .i64 x] 23))
    clear h
    go_enter Tryz.func18, Tryz.ntmps18
    go_wp2_with fail
    refine bodyPost_ret (results_cell_row rfl _ _ (w.heap.size + 1) 23 #[.bool n, .string s, .int .i64 x] (0, 0) _ rfl Z0.out Tryz.underlying23 rfl (by kernel_rfl)) rfl ?_
    exact ⟨by rw [HN.out], belowThen (belowBox w _) (belowBox _ _)⟩
  · have HN := Lib.hid (show negB ⟨n, s, x⟩ = !n by unfold negB; rw [if_neg h])
    have hd : s.toList.isEmpty = false := by rw [List.isEmpty_eq_false_iff]; exact ne_toList (by omega)
    have hd2 : (s.toList == []) = false := by rw [beq_eq_false_iff_ne]; exact ne_toList (by omega)
    have hd3 : ¬ s.toList = [] := ne_toList (by omega)
    have Z0 := Lib.hid (two_new w (.cells #[.bool (!n), .string s, .int .i64 x] 23) (.cells #[.bool (!n), .string s, .int .i64 x] 23))
    clear h
    go_enter Tryz.func18, Tryz.ntmps18
    go_wp2_with fail
    refine bodyPost_ret (results_cell_row rfl _ _ (w.heap.size + 1) 23 #[.bool (!n), .string s, .int .i64 x] (0, 0) _ rfl Z0.out Tryz.underlying23 rfl (by kernel_rfl)) rfl ?_
    exact ⟨by rw [HN.out], belowThen (belowBox w _) (belowBox _ _)⟩
set_option maxRecDepth 100000 in
theorem neg_r (d : DecD) (w : World) : Calls Tryz.prog 21 #[.agg #[.bool d.neg, .string d.digits, .int .i64 d.exp]] w (NegR d w) := by
  obtain ⟨n, s, x⟩ := d
  by_cases h : s.size = 0
  · have HN := Lib.hid (show negB ⟨n, s, x⟩ = n by unfold negB; rw [if_pos h])
    have hd := toList_nil h
    have Z0 := Lib.hid (two_new w (.cells #[.bool n, .string s, .int .i64 x] 23) (.cells #[.bool n, .string s, .int .i64 x] 23))
    clear h
    go_enter Tryz.func21, Tryz.ntmps21
    go_wp2_with fail
    refine bodyPost_ret (results_cell_row rfl _ _ (w.heap.size + 1) 23 #[.bool n, .string s, .int .i64 x] (0, 0) _ rfl Z0.out Tryz.underlying23 rfl (by kernel_rfl)) rfl ?_
    exact ⟨by rw [HN.out], belowThen (belowBox w _) (belowBox _ _)⟩
  · have HN := Lib.hid (show negB ⟨n, s, x⟩ = !n by unfold negB; rw [if_neg h])
    have hd : s.toList.isEmpty = false := by rw [List.isEmpty_eq_false_iff]; exact ne_toList (by omega)
    have hd2 : (s.toList == []) = false := by rw [beq_eq_false_iff_ne]; exact ne_toList (by omega)
    have hd3 : ¬ s.toList = [] := ne_toList (by omega)
    have Z0 := Lib.hid (two_new w (.cells #[.bool (!n), .string s, .int .i64 x] 23) (.cells #[.bool (!n), .string s, .int .i64 x] 23))
    clear h
    go_enter Tryz.func21, Tryz.ntmps21
    go_wp2_with fail
    refine bodyPost_ret (results_cell_row rfl _ _ (w.heap.size + 1) 23 #[.bool (!n), .string s, .int .i64 x] (0, 0) _ rfl Z0.out Tryz.underlying23 rfl (by kernel_rfl)) rfl ?_
    exact ⟨by rw [HN.out], belowThen (belowBox w _) (belowBox _ _)⟩

/-! ### A number as a value -/
def numD (d : DecD) : ValD := .mk 2 false d ⟨0, 0, 0, 0⟩ ⟨#[]⟩ [] [] []
def numR (d : DecD) : List Value := [.int .i64 2, .bool false, .bool d.neg, .string d.digits, .int .i64 d.exp, .int .i64 0, .int .i64 0, .int .i64 0, .int .i64 0, .string ⟨#[]⟩, .slice none 0 0, .slice none 0 0, .slice none 0 0]
theorem numD_at {w : World} {B N : Nat} {d : DecD} (hs : d.digits.size ≤ N) (he : I64 d.exp) : ValD.At w B N (numD d) (numR d) :=
  ⟨none, none, none, 0, 0, 0, rfl, ⟨⟨by show (-9223372036854775808 : Int) ≤ 2; omega, by show (2 : Int) ≤ _; omega⟩, he, i64_0, i64_0, i64_0, i64_0, hs, Nat.zero_le _, Nat.zero_le _, Nat.zero_le _, Nat.zero_le _⟩, .inl rfl, trivial, trivial⟩
theorem numD_fits (n : Nat) (d : DecD) : fitsV (n + 1) (numD d) := ⟨fun x h => (by cases h), fun f h => (by cases h)⟩
def NumR (d : DecD) (w : World) (e : Ending) (w' : World) : Prop := e = .returned (.agg (numR d).toArray) ∧ Below w.heap.size w w'
set_option maxRecDepth 100000 in
theorem num_p (d : DecD) (w : World) : Calls Tryz.prog 49 #[.agg #[.bool d.neg, .string d.digits, .int .i64 d.exp]] w (NumR d w) := by
  have Z0 := Lib.hid (two_new w (.cells #[.bool d.neg, .string d.digits, .int .i64 d.exp] 23) (.cells (numR d).toArray 30))
  go_enter Tryz.func49, Tryz.ntmps49
  go_wp2_with fail
  refine bodyPost_ret (results_cell_row rfl _ _ (w.heap.size + 1) 30 (numR d).toArray (0, 0) _ rfl Z0.out Tryz.underlying30 rfl (row_size rfl)) rfl ?_
  exact ⟨rfl, belowThen (belowBox w _) (belowBox _ _)⟩
set_option maxRecDepth 100000 in
theorem num_r (d : DecD) (w : World) : Calls Tryz.prog 51 #[.agg #[.bool d.neg, .string d.digits, .int .i64 d.exp]] w (NumR d w) := by
  have Z0 := Lib.hid (two_new w (.cells #[.bool d.neg, .string d.digits, .int .i64 d.exp] 23) (.cells (numR d).toArray 30))
  go_enter Tryz.func51, Tryz.ntmps51
  go_wp2_with fail
  refine bodyPost_ret (results_cell_row rfl _ _ (w.heap.size + 1) 30 (numR d).toArray (0, 0) _ rfl Z0.out Tryz.underlying30 rfl (row_size rfl)) rfl ?_
  exact ⟨rfl, belowThen (belowBox w _) (belowBox _ _)⟩
set_option maxRecDepth 100000 in
set_option maxHeartbeats 1600000 in
theorem number_p (d : DecD) (w : World) (B N : Nat) (hN : N ≤ 4294967296) (hs : d.digits.size ≤ N) (he : I64 d.exp) (hB : B ≤ w.heap.size) :
    Calls Tryz.prog 17 #[.agg #[.bool d.neg, .string d.digits, .int .i64 d.exp], .int .i64 0] w (ResR B N (resD (numD d)) w) := by
  have H0 := Lib.hid (belowThen (belowBox w (.cells #[.bool d.neg, .string d.digits, .int .i64 d.exp] 23)) (belowBox _ (.cells zeroV 30)))
  have Z0 := Lib.hid (show RowAt _ (w.heap.size + 1) zeroV.toList from two_new w (.cells #[.bool d.neg, .string d.digits, .int .i64 d.exp] 23) (.cells zeroV 30))
  have HSZ := Lib.hid hs
  have HE := Lib.hid he
  clear hs he
  go_enter Tryz.func17, Tryz.ntmps17
  go_wp2_with fail
  refine (num_p d _).mono ?_
  rintro e w1 ⟨rfl, hb⟩
  have H1 := Lib.hid (belowThen H0.out hb)
  have Z1 := Lib.hid (Z0.out.below hb (by rw [World.size_alloc, World.size_alloc]; omega))
  have hs1 : w.heap.size + 2 ≤ w1.heap.size := by have := hb.size; rw [World.size_alloc, World.size_alloc] at this; omega
  clear hb Z0 H0
  go_wp2_with fail
  refine (valid_prog 1 (numD d) _ B N (numR d) (by omega) (numD_fits 0 d) hN (Nat.le_trans hB H1.out.size) (numD_at HSZ.out HE.out)).mono ?_
  rintro e w2 ⟨cs2, rfl, hsol, hb⟩
  obtain ⟨r, hr⟩ : ∃ r, resD (numD d) = r := ⟨_, rfl⟩
  have HR := Lib.hid hr
  rw [hr] at hsol ⊢
  have hlen := hsol.here.len
  have AT := Lib.hid hsol.here
  have S1 := Lib.hid hsol
  have H2 := Lib.hid (belowThen H1.out hb)
  have Z2 := Lib.hid (Z1.out.below hb (by omega))
  clear hsol hb hr
  obtain ⟨rv, rk⟩ := r
  go_wp2_with ((with_reducible show wpList _ _ _ (⟨none, .store 30 (.tmp 4) _, _, _, _, _⟩ :: _) _ _); refine wpList_store_row rfl 30 _ _ rfl (w.heap.size + 1) cs2.toArray rfl rfl 30 zeroV Z2.out (row_size hlen) (row_zero hlen) (row_ones AT.out) ?_)
  refine bodyPost_ret (results_cell_row2 rfl _ _ (w.heap.size + 1) 30 _ (0, 0) _ rfl (setRow_heap _ _ _ _ _ _ Z2.out) Tryz.underlying30 rfl (row_size hlen)) rfl ?_
  rw [HR.out]
  refine ⟨cs2, rfl, fun c hc => S1.out c ?_, below_setRow H2.out (by omega) _⟩
  exact (Apart.of_setRow0 cs2.toArray (by omega) (by omega)).after hc (by omega)
set_option maxRecDepth 100000 in
set_option maxHeartbeats 1600000 in
theorem number_r (d : DecD) (w : World) (B N : Nat) (hN : N ≤ 4294967296) (hs : d.digits.size ≤ N) (he : I64 d.exp) (hB : B ≤ w.heap.size) :
    Calls Tryz.prog 20 #[.agg #[.bool d.neg, .string d.digits, .int .i64 d.exp], .int .i64 0] w (ResR B N (resD (numD d)) w) := by
  have H0 := Lib.hid (belowThen (belowBox w (.cells #[.bool d.neg, .string d.digits, .int .i64 d.exp] 23)) (belowBox _ (.cells zeroV 30)))
  have Z0 := Lib.hid (show RowAt _ (w.heap.size + 1) zeroV.toList from two_new w (.cells #[.bool d.neg, .string d.digits, .int .i64 d.exp] 23) (.cells zeroV 30))
  have HSZ := Lib.hid hs
  have HE := Lib.hid he
  clear hs he
  go_enter Tryz.func20, Tryz.ntmps20
  go_wp2_with fail
  refine (num_r d _).mono ?_
  rintro e w1 ⟨rfl, hb⟩
  have H1 := Lib.hid (belowThen H0.out hb)
  have Z1 := Lib.hid (Z0.out.below hb (by rw [World.size_alloc, World.size_alloc]; omega))
  have hs1 : w.heap.size + 2 ≤ w1.heap.size := by have := hb.size; rw [World.size_alloc, World.size_alloc] at this; omega
  clear hb Z0 H0
  go_wp2_with fail
  refine (result_ref (numD d) _ B N (numR d) hN (Nat.le_trans hB H1.out.size) (numD_at HSZ.out HE.out)).mono ?_
  rintro e w2 ⟨cs2, rfl, hsol, hb⟩
  obtain ⟨r, hr⟩ : ∃ r, resD (numD d) = r := ⟨_, rfl⟩
  have HR := Lib.hid hr
  rw [hr] at hsol ⊢
  have hlen := hsol.here.len
  have AT := Lib.hid hsol.here
  have S1 := Lib.hid hsol
  have H2 := Lib.hid (belowThen H1.out hb)
  have Z2 := Lib.hid (Z1.out.below hb (by omega))
  clear hsol hb hr
  obtain ⟨rv, rk⟩ := r
  go_wp2_with ((with_reducible show wpList _ _ _ (⟨none, .store 30 (.tmp 4) _, _, _, _, _⟩ :: _) _ _); refine wpList_store_row rfl 30 _ _ rfl (w.heap.size + 1) cs2.toArray rfl rfl 30 zeroV Z2.out (row_size hlen) (row_zero hlen) (row_ones AT.out) ?_)
  refine bodyPost_ret (results_cell_row2 rfl _ _ (w.heap.size + 1) 30 _ (0, 0) _ rfl (setRow_heap _ _ _ _ _ _ Z2.out) Tryz.underlying30 rfl (row_size hlen)) rfl ?_
  rw [HR.out]
  refine ⟨cs2, rfl, fun c hc => S1.out c ?_, below_setRow H2.out (by omega) _⟩
  exact (Apart.of_setRow0 cs2.toArray (by omega) (by omega)).after hc (by omega)

/-! ### The negated number, or the error -/
theorem zeroD_fits' (n : Nat) : fitsV (n + 1) zeroD := ⟨fun x h => (by cases h), fun f h => (by cases h)⟩
def negV (v : ValD) : ValD × Int := if v.kind = 2 then resD (numD (negD v.num)) else (zeroD, 6)
theorem negV_fits (n : Nat) (v : ValD) : fitsV (n + 1) (negV v).1 := by
  unfold negV
  split
  · unfold resD
    split
    · exact numD_fits n _
    · exact zeroD_fits' n
  · exact zeroD_fits' n
def NonR (w : World) (e : Ending) (w' : World) : Prop := e = .returned (.tuple #[.agg zeroV, .int .i64 6]) ∧ Below w.heap.size w w'
set_option maxRecDepth 100000 in
theorem none_6 (w : World) : Calls Tryz.prog 19 #[.int .i64 6] w (NonR w) := by
  have Z0 := Lib.hid (show RowAt (w.alloc (.cells zeroV 30)) w.heap.size zeroV.toList from heap_alloc_new w (.cells zeroV 30))
  go_enter Tryz.func19, Tryz.ntmps19
  go_wp2_with ((with_reducible show wpList _ _ _ (⟨none, .store 30 (.tmp 2) _, _, _, _, _⟩ :: _) _ _); refine wpList_store_row rfl 30 _ _ rfl w.heap.size zeroV rfl rfl 30 zeroV Z0.out sizeZ rfl oneZ ?_)
  refine bodyPost_ret (results_cell_row2 rfl _ _ w.heap.size 30 _ (0, 0) _ rfl (setRow_heap _ _ _ _ _ _ Z0.out) Tryz.underlying30 rfl sizeZ) rfl ?_
  exact ⟨rfl, below_setRow (belowBox w _) (Nat.le_refl _) _⟩
set_option maxRecDepth 100000 in
set_option maxHeartbeats 3200000 in
theorem bneg_p (v : ValD) (w : World) (N : Nat) (cs : List Value) (hN : N ≤ 4294967296) (hv : ValD.At w w.heap.size N v cs) :
    Calls Tryz.prog 8 #[.agg cs.toArray] w (IdxR N (negV v) w) := by
  obtain ⟨ya, la, fa, yc, lc, fc, hh⟩ := hv.has
  have H0 := Lib.hid (belowThen (belowBox w (.cells cs.toArray 30)) (belowBox _ (.cells zeroV 30)))
  have Z0 := Lib.hid (show RowAt _ (w.heap.size + 1) zeroV.toList from two_new w (.cells cs.toArray 30) (.cells zeroV 30))
  have R0 := Lib.hid (show CellsAt ((w.alloc (.cells cs.toArray 30)).alloc (.cells #[.int .i64 0, .bool false, .bool false, .string ⟨#[]⟩, .int .i64 0, .int .i64 0, .int .i64 0, .int .i64 0, .int .i64 0, .string ⟨#[]⟩, .slice none 0 0, .slice none 0 0, .slice none 0 0] 30)) w.heap.size 0 cs from (box_at w cs 30).then (belowBox _ _) (by rw [World.size_alloc]; omega))
  have HH := Lib.hid hh
  have e0 := R0.out.get0 HH.out.kind
  have e2 := R0.out.get0 HH.out.neg
  have e3 := R0.out.get0 HH.out.digits
  have e4 := R0.out.get0 HH.out.exp
  clear hv hh
  by_cases hk : v.kind = 2
  · have HQ := Lib.hid (show negV v = resD (numD (negD v.num)) by unfold negV; rw [if_pos hk])
    rw [hk] at e0
    clear hk
    go_enter Tryz.func8, Tryz.ntmps8
    go_wp2_with fail
    refine (neg_p v.num _).mono ?_
    rintro e w1 ⟨rfl, hb⟩
    have H1 := Lib.hid (belowThen H0.out hb)
    have Z1 := Lib.hid (Z0.out.below hb (by rw [World.size_alloc, World.size_alloc]; omega))
    have hs1 : w.heap.size + 2 ≤ w1.heap.size := by have := hb.size; rw [World.size_alloc, World.size_alloc] at this; omega
    clear hb Z0 H0 e0 e2 e3 e4 R0
    go_wp2_with fail
    refine (number_p (negD v.num) _ w.heap.size N hN HH.out.own.2.2.2.2.2.2.1 HH.out.own.2.1 H1.out.size).mono ?_
    rintro e w2 ⟨cs2, rfl, hsol, hb⟩
    obtain ⟨r, hr⟩ : ∃ r, resD (numD (negD v.num)) = r := ⟨_, rfl⟩
    rw [hr] at hsol HQ ⊢
    have hlen := hsol.here.len
    have AT := Lib.hid hsol.here
    have S1 := Lib.hid hsol
    have H2 := Lib.hid (belowThen H1.out hb)
    have Z2 := Lib.hid (Z1.out.below hb (by omega))
    clear hsol hb hr
    obtain ⟨rv, rk⟩ := r
    go_wp2_with ((with_reducible show wpList _ _ _ (⟨none, .store 30 (.tmp 2) _, _, _, _, _⟩ :: _) _ _); refine wpList_store_row rfl 30 _ _ rfl (w.heap.size + 1) cs2.toArray rfl rfl 30 zeroV Z2.out (row_size hlen) (row_zero hlen) (row_ones AT.out) ?_)
    refine bodyPost_ret (results_cell_row2 rfl _ _ (w.heap.size + 1) 30 _ (0, 0) _ rfl (setRow_heap _ _ _ _ _ _ Z2.out) Tryz.underlying30 rfl (row_size hlen)) rfl ?_
    rw [HQ.out]
    exact ⟨cs2, rfl, S1.out _ (Apart.of_setRow0 cs2.toArray (by omega) (by omega)), below_setRow H2.out (by omega) _⟩
  · have HQ := Lib.hid (show negV v = (zeroD, 6) by unfold negV; rw [if_neg hk])
    have hk1 : (v.kind == 2) = false := by simpa using hk
    have hk2 : (v.kind != 2) = true := by simpa using hk
    clear hk
    go_enter Tryz.func8, Tryz.ntmps8
    go_wp2_with ((with_reducible show wpList _ _ _ (⟨none, .store 30 (.tmp 2) _, _, _, _, _⟩ :: _) _ _); refine wpList_store_row rfl 30 _ _ rfl (w.heap.size + 1) zeroV rfl rfl 30 zeroV Z0.out sizeZ rfl oneZ ?_)
    refine bodyPost_ret (results_cell_row2 rfl _ _ (w.heap.size + 1) 30 _ (0, 0) _ rfl (setRow_heap _ _ _ _ _ _ Z0.out) Tryz.underlying30 rfl sizeZ) rfl ?_
    exact idx_zero HQ.out (by omega) H0.out
set_option maxRecDepth 100000 in
set_option maxHeartbeats 3200000 in
theorem bneg_r (v : ValD) (w : World) (N : Nat) (cs : List Value) (hN : N ≤ 4294967296) (hv : ValD.At w w.heap.size N v cs) :
    Calls Tryz.prog 9 #[.agg cs.toArray] w (IdxR N (negV v) w) := by
  obtain ⟨ya, la, fa, yc, lc, fc, hh⟩ := hv.has
  have H0 := Lib.hid (belowThen (belowBox w (.cells cs.toArray 30)) (belowBox _ (.cells zeroV 30)))
  have Z0 := Lib.hid (show RowAt _ (w.heap.size + 1) zeroV.toList from two_new w (.cells cs.toArray 30) (.cells zeroV 30))
  have R0 := Lib.hid (show CellsAt ((w.alloc (.cells cs.toArray 30)).alloc (.cells #[.int .i64 0, .bool false, .bool false, .string ⟨#[]⟩, .int .i64 0, .int .i64 0, .int .i64 0, .int .i64 0, .int .i64 0, .string ⟨#[]⟩, .slice none 0 0, .slice none 0 0, .slice none 0 0] 30)) w.heap.size 0 cs from (box_at w cs 30).then (belowBox _ _) (by rw [World.size_alloc]; omega))
  have HH := Lib.hid hh
  have e0 := R0.out.get0 HH.out.kind
  have e2 := R0.out.get0 HH.out.neg
  have e3 := R0.out.get0 HH.out.digits
  have e4 := R0.out.get0 HH.out.exp
  clear hv hh
  by_cases hk : v.kind = 2
  · have HQ := Lib.hid (show negV v = resD (numD (negD v.num)) by unfold negV; rw [if_pos hk])
    rw [hk] at e0
    clear hk
    go_enter Tryz.func9, Tryz.ntmps9
    go_wp2_with fail
    refine (neg_r v.num _).mono ?_
    rintro e w1 ⟨rfl, hb⟩
    have H1 := Lib.hid (belowThen H0.out hb)
    have Z1 := Lib.hid (Z0.out.below hb (by rw [World.size_alloc, World.size_alloc]; omega))
    have hs1 : w.heap.size + 2 ≤ w1.heap.size := by have := hb.size; rw [World.size_alloc, World.size_alloc] at this; omega
    clear hb Z0 H0 e0 e2 e3 e4 R0
    go_wp2_with fail
    refine (number_r (negD v.num) _ w.heap.size N hN HH.out.own.2.2.2.2.2.2.1 HH.out.own.2.1 H1.out.size).mono ?_
    rintro e w2 ⟨cs2, rfl, hsol, hb⟩
    obtain ⟨r, hr⟩ : ∃ r, resD (numD (negD v.num)) = r := ⟨_, rfl⟩
    rw [hr] at hsol HQ ⊢
    have hlen := hsol.here.len
    have AT := Lib.hid hsol.here
    have S1 := Lib.hid hsol
    have H2 := Lib.hid (belowThen H1.out hb)
    have Z2 := Lib.hid (Z1.out.below hb (by omega))
    clear hsol hb hr
    obtain ⟨rv, rk⟩ := r
    go_wp2_with ((with_reducible show wpList _ _ _ (⟨none, .store 30 (.tmp 2) _, _, _, _, _⟩ :: _) _ _); refine wpList_store_row rfl 30 _ _ rfl (w.heap.size + 1) cs2.toArray rfl rfl 30 zeroV Z2.out (row_size hlen) (row_zero hlen) (row_ones AT.out) ?_)
    refine bodyPost_ret (results_cell_row2 rfl _ _ (w.heap.size + 1) 30 _ (0, 0) _ rfl (setRow_heap _ _ _ _ _ _ Z2.out) Tryz.underlying30 rfl (row_size hlen)) rfl ?_
    rw [HQ.out]
    exact ⟨cs2, rfl, S1.out _ (Apart.of_setRow0 cs2.toArray (by omega) (by omega)), below_setRow H2.out (by omega) _⟩
  · have HQ := Lib.hid (show negV v = (zeroD, 6) by unfold negV; rw [if_neg hk])
    have hk1 : (v.kind == 2) = false := by simpa using hk
    have hk2 : (v.kind != 2) = true := by simpa using hk
    clear hk
    go_enter Tryz.func9, Tryz.ntmps9
    go_wp2_with fail
    refine (none_6 _).mono ?_
    rintro e w1 ⟨rfl, hb⟩
    have H1 := Lib.hid (belowThen H0.out hb)
    have Z1 := Lib.hid (Z0.out.below hb (by rw [World.size_alloc, World.size_alloc]; omega))
    clear hb Z0 H0 e0 e2 e3 e4 R0
    go_wp2_with ((with_reducible show wpList _ _ _ (⟨none, .store 30 (.tmp 2) _, _, _, _, _⟩ :: _) _ _); refine wpList_store_row rfl 30 _ _ rfl (w.heap.size + 1) zeroV rfl rfl 30 zeroV Z1.out sizeZ rfl oneZ ?_)
    refine bodyPost_ret (results_cell_row2 rfl _ _ (w.heap.size + 1) 30 _ (0, 0) _ rfl (setRow_heap _ _ _ _ _ _ Z1.out) Tryz.underlying30 rfl sizeZ) rfl ?_
    exact idx_zero HQ.out (by omega) H1.out
end Go.Proofs.YtmjfggadehkbjaaGreatDoor

/- The law BuiltinCompares: it says yes, of values that lie in memory. -/
namespace Go.Proofs.YtmjfggadehkbjaaGreatDoor
open Go.RowKit

theorem wpList_load_mid_g {P : Program} {ops : Array Oper} {rest : List Oper} {op : Oper} {a : Act} {w : World} {Q : Exit → Act → World → Prop} (hw : Region.wanted op (yielded ops a.tmps) = true) (ty : TypeId) (x : Operand) (ho : op.op = .load ty x)
    (b o : Nat) (hx : a.eval x = .pointer (some ⟨b, o, none⟩)) (cs : List Value) (d : TypeDesc) (hc : w.rangeAt b o cs)
    (hu : P.underlying ty = some d) (hd : d.isRow = true) (hi : (P.info? ty).map (·.size) = some cs.length)
    (h : wpList P ops Q rest (a.put op.dst (.agg cs.toArray)) w) : wpList P ops Q (op :: rest) a w :=
  wpList_step fun K hK => by rw [if_pos hw]; exact wp_load_mid ty x ho b o hx cs d hc hu hd hi (hK _ _ h)
def VlxR (v : ValD) (w : World) (e : Ending) (w' : World) : Prop := ∃ b, e = .returned (.bool b) ∧ (b = true → fitsV 60 v ∧ chkD v = 0) ∧ Below w.heap.size w w'
set_option maxRecDepth 100000 in
set_option maxHeartbeats 1600000 in
theorem valid37x (v : ValD) (w : World) (B N : Nat) (cs : List Value) (hN : N ≤ 4294967296) (hB : B ≤ w.heap.size) (hv : ValD.At w B N v cs) : Calls Tryz.prog 5 #[.agg cs.toArray] w (VlxR v w) := by
  have HV := Lib.hid hv
  have hl := Lib.hid (show (Tryz.prog.info? 30).map (·.size) = some cs.length by rw [hv.len]; exact sizeV)
  have H0 := Lib.hid (show Below w.heap.size w (w.alloc (.cells cs.toArray 30)) from belowBox w _)
  clear hv
  go_enter Tryz.func5, Tryz.ntmps5
  go_wp2_with ((with_reducible show wpList _ _ _ (⟨some 3, _, _, _, _, _⟩ :: _) _ _); refine wpList_load_mid rfl 30 _ rfl w.heap.size 0 rfl cs _ (box_at w cs 30).range Tryz.underlying30 rfl hl.out ?_)
  refine (small_ex _ B N v cs (by omega) (Nat.le_trans hB H0.out.size) (HV.out.below (H0.out.mono hB))).mono ?_
  rintro e w1 ⟨b, rfl, hs, hb⟩
  have H1 := Lib.hid (belowThen H0.out hb)
  have R1 := Lib.hid ((box_at w cs 30).then hb (by rw [World.size_alloc]; omega))
  cases b with
  | false =>
    clear hs hb
    go_wp2_with fail
    go_ret
    exact ⟨_, rfl, fun h => (by cases h), H1.out⟩
  | true =>
    have HS := Lib.hid (hs rfl)
    clear hs hb
    go_wp2_with ((with_reducible show wpList _ _ _ (⟨some 6, _, _, _, _, _⟩ :: _) _ _); refine wpList_load_mid_g rfl 30 _ rfl w.heap.size 0 rfl cs _ R1.out.range Tryz.underlying30 rfl hl.out ?_)
    refine (check07_exact v _ B N cs hN (Nat.le_trans hB H1.out.size) (HV.out.below (H1.out.mono hB))).mono ?_
    rintro e w2 ⟨rfl, hb⟩
    obtain ⟨k, hk⟩ : ∃ k, chkD v = k := ⟨_, rfl⟩
    have HK := Lib.hid hk
    rw [hk]
    have H2 := Lib.hid (belowThen H1.out hb)
    clear hk hb
    go_wp2_with fail
    go_ret
    refine ⟨_, rfl, fun h => ⟨HS.out, HK.out.trans ?_⟩, H2.out⟩
    simpa using h
set_option maxRecDepth 100000 in
theorem alike_yes (n : Nat) (v : ValD) (k : Int) (w : World) (B N : Nat) (cs ds : List Value) (hf : fitsV n v) (hN : N ≤ 4294967296) (hB : B ≤ w.heap.size) (hv : ValD.At w B N v cs) (hu : ValD.At w B N v ds) :
    Calls Tryz.prog 10 #[.agg cs.toArray, .int .i64 k, .agg ds.toArray, .int .i64 k] w (YesB w) := by
  have HF := Lib.hid hf
  have HV := Lib.hid hv
  have HU := Lib.hid hu
  have hl := Lib.hid (show (Tryz.prog.info? 30).map (·.size) = some cs.length by rw [hv.len]; exact sizeV)
  have hl2 := Lib.hid (show (Tryz.prog.info? 30).map (·.size) = some ds.length by rw [hu.len]; exact sizeV)
  have D0 := Lib.hid (duo_boxes w cs ds 30)
  clear hf hv hu
  go_enter Tryz.func10, Tryz.ntmps10
  go_wp2_with (first
    | ((with_reducible show wpList _ _ _ (⟨some 13, _, _, _, _, _⟩ :: _) _ _); refine wpList_load_mid_g rfl 30 _ rfl w.heap.size 0 rfl cs _ D0.out.one.range Tryz.underlying30 rfl hl.out ?_)
    | ((with_reducible show wpList _ _ _ (⟨some 14, _, _, _, _, _⟩ :: _) _ _); refine wpList_load_mid_g rfl 30 _ rfl (w.heap.size + 1) 0 rfl ds _ D0.out.two.range Tryz.underlying30 rfl hl2.out ?_))
  refine (same_yes n v _ B N cs ds HF.out hN (Nat.le_trans hB D0.out.below.size) (HV.out.below (D0.out.below.mono hB)) (HU.out.below (D0.out.below.mono hB))).mono ?_
  rintro e w3 ⟨rfl, hb3⟩
  have H3 := Lib.hid (belowThen D0.out.below hb3)
  clear hb3
  go_wp2_with fail
  go_ret
  exact ⟨rfl, H3.out⟩

set_option maxRecDepth 100000 in
set_option maxHeartbeats 6400000 in
theorem law37c (op : ByteArray) (v u : ValD) (w : World) (N : Nat) (cs ds : List Value) (hN : N ≤ 16777216) (hv : ValD.At w w.heap.size N v cs) (hu : ValD.At w w.heap.size N u ds) :
    Calls Tryz.prog 3 #[.string op, .agg cs.toArray, .agg ds.toArray] w (YesB w) := by
  have HV := Lib.hid hv
  have HU := Lib.hid hu
  have hl := Lib.hid (show (Tryz.prog.info? 30).map (·.size) = some cs.length by rw [hv.len]; exact sizeV)
  have hl2 := Lib.hid (show (Tryz.prog.info? 30).map (·.size) = some ds.length by rw [hu.len]; exact sizeV)
  have T0 := Lib.hid (duo_boxes w cs ds 30)
  clear hv hu
  go_enter Tryz.func3, Tryz.ntmps3
  go_wp2_with ((with_reducible show wpList _ _ _ (⟨some 15, _, _, _, _, _⟩ :: _) _ _); refine wpList_load_mid rfl 30 _ rfl w.heap.size 0 rfl cs _ T0.out.one.range Tryz.underlying30 rfl hl.out ?_)
  refine (valid37x v _ w.heap.size N cs (by omega) T0.out.below.size (HV.out.below T0.out.below)).mono ?_
  rintro e w1 ⟨b1, rfl, hq, hb⟩
  have T1 := Lib.hid (T0.out.later hb)
  cases b1 with
  | false =>
    clear hq hb
    go_wp2_with fail
    go_ret
    exact ⟨rfl, T1.out.below⟩
  | true =>
  have HQ := Lib.hid (hq rfl)
  clear hq hb T0
  go_wp2_with ((with_reducible show wpList _ _ _ (⟨some 19, _, _, _, _, _⟩ :: _) _ _); refine wpList_load_mid_g rfl 30 _ rfl (w.heap.size + 1) 0 rfl ds _ T1.out.two.range Tryz.underlying30 rfl hl2.out ?_)
  refine (valid37x u _ w.heap.size N ds (by omega) T1.out.below.size (HU.out.below T1.out.below)).mono ?_
  rintro e w2 ⟨b2, rfl, hq, hb⟩
  have T2 := Lib.hid (T1.out.later hb)
  cases b2 with
  | false =>
    clear hq hb
    go_wp2_with fail
    go_ret
    exact ⟨rfl, T2.out.below⟩
  | true =>
  have HQ2 := Lib.hid (hq rfl)
  clear hq hb T1
  have K1 := Lib.hid (okC_of 48 v 0 HQ.out.2)
  have K2 := Lib.hid (okC_of 48 u 0 HQ2.out.2)
  go_wp2_with (first
    | ((with_reducible show wpList _ _ _ (⟨some 25, _, _, _, _, _⟩ :: _) _ _); refine wpList_load_mid rfl 30 _ rfl w.heap.size 0 rfl cs _ T2.out.one.range Tryz.underlying30 rfl hl.out ?_)
    | ((with_reducible show wpList _ _ _ (⟨some 26, _, _, _, _, _⟩ :: _) _ _); refine wpList_load_mid rfl 30 _ rfl (w.heap.size + 1) 0 rfl ds _ T2.out.two.range Tryz.underlying30 rfl hl2.out ?_))
  refine (cmq_p op v u _ w.heap.size N cs ds K1.out K2.out (by omega) T2.out.below.size (HV.out.below T2.out.below) (HU.out.below T2.out.below)).mono ?_
  rintro e w3 ⟨rfl, hb⟩
  obtain ⟨r, hr⟩ : ∃ r, r = cmqD op (cmpD 48 v u) := ⟨_, rfl⟩
  have HR := Lib.hid hr
  rw [← hr]
  have T3 := Lib.hid (T2.out.later hb)
  clear hb T2 hr
  obtain ⟨r1, r2⟩ := r
  go_wp2_with (first
    | ((with_reducible show wpList _ _ _ (⟨some 32, _, _, _, _, _⟩ :: _) _ _); refine wpList_load_mid rfl 30 _ rfl w.heap.size 0 rfl cs _ T3.out.one.range Tryz.underlying30 rfl hl.out ?_)
    | ((with_reducible show wpList _ _ _ (⟨some 33, _, _, _, _, _⟩ :: _) _ _); refine wpList_load_mid rfl 30 _ rfl (w.heap.size + 1) 0 rfl ds _ T3.out.two.range Tryz.underlying30 rfl hl2.out ?_))
  refine (cmq_r op v u _ w.heap.size N cs ds K1.out K2.out (by omega) T3.out.below.size (HV.out.below T3.out.below) (HU.out.below T3.out.below)).mono ?_
  rintro e w4 ⟨rfl, hb⟩
  rw [← HR.out]
  have T4 := Lib.hid (T3.out.later hb)
  clear hb T3
  go_wp2_with ((with_reducible show wpList _ _ _ (⟨some 38, _, _, _, _, _⟩ :: _) _ _); refine wpList_load_mid rfl 30 _ rfl w.heap.size 0 rfl cs _ T4.out.one.range Tryz.underlying30 rfl hl.out ?_)
  refine (bneg_p v _ N cs (by omega) ((HV.out.below T4.out.below).mono T4.out.below.size)).mono ?_
  rintro e w5 ⟨xs, rfl, hx, hb⟩
  have HX := Lib.hid hx
  have T5 := Lib.hid (T4.out.later hb)
  have HLX := Lib.hid hx.len
  have hlx := Lib.hid (show (Tryz.prog.info? 30).map (·.size) = some xs.length by rw [hx.len]; exact sizeV)
  have T6 := Lib.hid (T5.out.later (belowBox w5 (.cells xs.toArray 30)))
  have X6 := Lib.hid (box_at w5 xs 30)
  have HS6 := Lib.hid (World.size_alloc w5 (.cells xs.toArray 30))
  obtain ⟨n, hn⟩ : ∃ n, n = negV v := ⟨_, rfl⟩
  rw [← hn] at HX ⊢
  have HNF := Lib.hid (show fitsV 60 n.1 by rw [hn]; exact negV_fits 59 v)
  have HN := Lib.hid hn
  clear hx hb T4 hn
  obtain ⟨n1, n2⟩ := n
  go_wp2_with (first
    | ((with_reducible show wpList _ _ _ (⟨none, .store 30 (.tmp 11) _, _, _, _, _⟩ :: _) _ _); refine wpList_store_new rfl 30 _ _ rfl zeroV xs.toArray rfl rfl (row_size HLX.out) (row_zero HLX.out) (row_ones HX.out) ?_)
    | ((with_reducible show wpList _ _ _ (⟨some 43, _, _, _, _, _⟩ :: _) _ _); refine wpList_load_mid rfl 30 _ rfl w.heap.size 0 rfl cs _ T6.out.one.range Tryz.underlying30 rfl hl.out ?_))
  refine (bneg_r v (w5.alloc (.cells xs.toArray 30)) N cs (by omega) ((HV.out.below T6.out.below).mono T6.out.below.size)).mono ?_
  rintro e w7 ⟨ys, rfl, hy, hb⟩
  rw [← HN.out] at hy ⊢
  have HY := Lib.hid hy
  have HLY := Lib.hid hy.len
  have hly := Lib.hid (show (Tryz.prog.info? 30).map (·.size) = some ys.length by rw [hy.len]; exact sizeV)
  have hs7 : w5.heap.size + 1 ≤ w7.heap.size := by have := hb.size; rw [HS6.out] at this; exact this
  have T8 := Lib.hid ((T6.out.later hb).later (belowBox w7 (.cells ys.toArray 30)))
  have X8 := Lib.hid ((X6.out.then hb (by rw [HS6.out]; omega)).then (belowBox w7 (.cells ys.toArray 30)) (by omega))
  have Y8 := Lib.hid (box_at w7 ys 30)
  have HX8 := Lib.hid (((HX.out.below (belowThen (belowBox w5 (.cells xs.toArray 30)) hb)).below ((belowBox w7 (.cells ys.toArray 30)).mono (by omega))).mono (show w5.heap.size ≤ w7.heap.size by omega))
  have HY8 := Lib.hid (HY.out.below (belowBox w7 (.cells ys.toArray 30)))
  have HS8 := Lib.hid (World.size_alloc w7 (.cells ys.toArray 30))
  clear hy hb X6 T6
  go_wp2_with (first
    | ((with_reducible show wpList _ _ _ (⟨none, .store 30 (.tmp 13) _, _, _, _, _⟩ :: _) _ _); refine wpList_store_new rfl 30 _ _ rfl zeroV ys.toArray rfl rfl (row_size HLY.out) (row_zero HLY.out) (row_ones HY.out) ?_)
    | ((with_reducible show wpList _ _ _ (⟨some 56, _, _, _, _, _⟩ :: _) _ _); refine wpList_load_mid_g rfl 30 _ rfl w5.heap.size 0 rfl xs _ X8.out.range Tryz.underlying30 rfl hlx.out ?_)
    | ((with_reducible show wpList _ _ _ (⟨some 58, _, _, _, _, _⟩ :: _) _ _); refine wpList_load_mid_g rfl 30 _ rfl w7.heap.size 0 rfl ys _ Y8.out.range Tryz.underlying30 rfl hly.out ?_))
  refine (alike_yes 60 n1 n2 (w7.alloc (.cells ys.toArray 30)) w7.heap.size N xs ys HNF.out (by omega) (by rw [HS8.out]; omega) HX8.out HY8.out).mono ?_
  rintro e w9 ⟨rfl, hb⟩
  have T9 := Lib.hid (T8.out.later hb)
  clear hb
  go_wp2_with fail
  go_ret
  exact ⟨rfl, T9.out.below⟩
end Go.Proofs.YtmjfggadehkbjaaGreatDoor
