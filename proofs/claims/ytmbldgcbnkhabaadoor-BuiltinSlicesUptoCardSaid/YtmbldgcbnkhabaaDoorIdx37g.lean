/- The law BuiltinIndexes: it says yes. -/
import Derived.Test.YtmbldgcbnkhabaaDoorIdx37d
import Derived.Test.YtmbldgcbnkhabaaDoorIdx37f
import Derived.Test.YtmbldgcbnkhabaaDoorSam07
namespace Go.Proofs.YtmbldgcbnkhabaaDoor
open Go.RowKit

theorem wpList_load_mid_g {P : Program} {ops : Array Oper} {rest : List Oper} {op : Oper} {a : Act} {w : World} {Q : Exit → Act → World → Prop} (hw : Region.wanted op (yielded ops a.tmps) = true) (ty : TypeId) (x : Operand) (ho : op.op = .load ty x)
    (b o : Nat) (hx : a.eval x = .pointer (some ⟨b, o, none⟩)) (cs : List Value) (d : TypeDesc) (hc : w.rangeAt b o cs)
    (hu : P.underlying ty = some d) (hd : d.isRow = true) (hi : (P.info? ty).map (·.size) = some cs.length)
    (h : wpList P ops Q rest (a.put op.dst (.agg cs.toArray)) w) : wpList P ops Q (op :: rest) a w :=
  wpList_step fun K hK => by rw [if_pos hw]; exact wp_load_mid ty x ho b o hx cs d hc hu hd hi (hK _ _ h)
def VldR (v : ValD) (w : World) (e : Ending) (w' : World) : Prop := ∃ b, e = .returned (.bool b) ∧ (b = true → fitsV 60 v ∧ VDec v.num ∧ (v.kind ≠ 6 → v.list = [])) ∧ Below w.heap.size w w'
set_option maxRecDepth 100000 in
set_option maxHeartbeats 1600000 in
theorem valid37 (v : ValD) (w : World) (B N : Nat) (cs : List Value) (hN : N ≤ 4294967296) (hB : B ≤ w.heap.size) (hv : ValD.At w B N v cs) : Calls Tryd.prog 5 #[.agg cs.toArray] w (VldR v w) := by
  have HV := Lib.hid hv
  have hl := Lib.hid (show (Tryd.prog.info? 30).map (·.size) = some cs.length by rw [hv.len]; exact sizeV)
  have H0 := Lib.hid (show Below w.heap.size w (w.alloc (.cells cs.toArray 30)) from belowBox w _)
  clear hv
  go_enter Tryd.func5, Tryd.ntmps5
  go_wp2_with ((with_reducible show wpList _ _ _ (⟨some 3, _, _, _, _, _⟩ :: _) _ _); refine wpList_load_mid rfl 30 _ rfl w.heap.size 0 rfl cs _ (box_at w cs 30).range Tryd.underlying30 rfl hl.out ?_)
  refine (small_ex _ B N v cs (by omega) (Nat.le_trans hB H0.out.size) (HV.out.below (H0.out.mono hB))).mono ?_
  rintro e w1 ⟨b, rfl, hs, hb⟩
  have H1 := Lib.hid (belowThen H0.out hb)
  have R1 := Lib.hid ((box_at w cs 30).then hb (by rw [World.size_alloc]; omega))
  cases b with
  | false =>
    clear hs hb
    go_wp2_with fail
    go_ret
    exact ⟨_, rfl, fun h => (by cases h), H1.out⟩
  | true =>
    have HS := Lib.hid (hs rfl)
    clear hs hb
    go_wp2_with ((with_reducible show wpList _ _ _ (⟨some 6, _, _, _, _, _⟩ :: _) _ _); refine wpList_load_mid_g rfl 30 _ rfl w.heap.size 0 rfl cs _ R1.out.range Tryd.underlying30 rfl hl.out ?_)
    refine (check07_ex v _ B N cs hN (Nat.le_trans hB H1.out.size) (HV.out.below (H1.out.mono hB))).mono ?_
    rintro e w2 ⟨k, rfl, hk, hb⟩
    have HK := Lib.hid hk
    have H2 := Lib.hid (belowThen H1.out hb)
    clear hk hb
    go_wp2_with fail
    go_ret
    refine ⟨_, rfl, fun h => ⟨HS.out, HK.out ?_⟩, H2.out⟩
    simpa using h

/-- A list as a value. -/
def listD (l : List ValD) : ValD := .mk 6 false ⟨false, ⟨#[]⟩, 0⟩ ⟨0, 0, 0, 0⟩ ⟨#[]⟩ [] l []
def listRow (n : Nat) (a : Option Addr) (c : Nat) : List Value := [.int .i64 6, .bool false, .bool false, .string ⟨#[]⟩, .int .i64 0, .int .i64 0, .int .i64 0, .int .i64 0, .int .i64 0, .string ⟨#[]⟩, .slice none 0 0, .slice a n c, .slice none 0 0]
theorem listD_at {w : World} {B N : Nat} {l : List ValD} {a : Option Addr} (c : Nat) (h : ValsAt w B N l a) (hl : l.length ≤ N) : ValD.At w B N (listD l) (listRow l.length a c) :=
  ⟨none, a, none, 0, c, 0, rfl, ⟨⟨by show (-9223372036854775808 : Int) ≤ 6; omega, by show (6 : Int) ≤ _; omega⟩, i64_0, i64_0, i64_0, i64_0, i64_0, Nat.zero_le _, Nat.zero_le _, Nat.zero_le _, hl, Nat.zero_le _⟩, .inl rfl, h, trivial⟩
def LstR (n : Nat) (a : Option Addr) (c : Nat) (w : World) (e : Ending) (w' : World) : Prop := e = .returned (.agg (listRow n a c).toArray) ∧ Below w.heap.size w w'
theorem list07 (n : Nat) (a : Option Addr) (c : Nat) (w : World) : Calls Tryd.prog 25 #[.slice a n c] w (LstR n a c w) := by
  go_enter Tryd.func25, Tryd.ntmps25
  go_wp2_with ((with_reducible show wpList _ _ _ (⟨none, .store 30 (.tmp 2) _, _, _, _, _⟩ :: _) _ _); refine wpList_store_row rfl 30 _ _ rfl w.heap.size (listRow n a c).toArray rfl rfl 30 zeroV (heap_alloc_new w _) (row_size rfl) (row_zero rfl) (by kernel_rfl) ?_)
  refine bodyPost_ret (results_cell_row rfl _ _ w.heap.size 30 _ (0, 0) _ rfl (setRow_heap _ _ _ _ _ _ (heap_alloc_new w _)) Tryd.underlying30 rfl (row_size rfl)) rfl ?_
  exact ⟨rfl, below_setRow (belowBox w _) (by omega) _⟩
theorem sameAll_yes (n : Nat) (l : List ValD) (w : World) (B N : Nat) (a1 a2 : Option Addr) (c1 c2 : Nat) (hf : ∀ x ∈ l, fitsV n x) (hN : N ≤ 4294967296) (hl : l.length ≤ N) (hB : B ≤ w.heap.size) (h1 : ValsAt w B N l a1) (h2 : ValsAt w B N l a2) :
    Calls Tryd.prog 11 #[.slice a1 l.length c1, .slice a2 l.length c2] w (YesB w) := by
  have HF := Lib.hid (show fitsV (n + 1) (listD l) from ⟨hf, fun f h => by cases h⟩)
  have V1 := Lib.hid h1
  have V2 := Lib.hid h2
  clear hf h1 h2
  go_enter Tryd.func11, Tryd.ntmps11
  go_wp2_with fail
  refine (list07 l.length a1 c1 _).mono ?_
  rintro e w1 ⟨rfl, hb1⟩
  have H1 := Lib.hid hb1
  clear hb1
  go_wp2_with fail
  refine (list07 l.length a2 c2 _).mono ?_
  rintro e w2 ⟨rfl, hb2⟩
  have H2 := Lib.hid (belowThen H1.out hb2)
  clear hb2
  go_wp2_with fail
  refine (same_yes (n + 1) (listD l) _ B N _ _ HF.out hN (Nat.le_trans hB H2.out.size) (listD_at c1 (V1.out.below (H2.out.mono hB)) hl) (listD_at c2 (V2.out.below (H2.out.mono hB)) hl)).mono ?_
  rintro e w3 ⟨rfl, hb3⟩
  have H3 := Lib.hid (belowThen H2.out hb3)
  clear hb3
  go_wp2_with fail
  go_ret
  exact ⟨rfl, H3.out⟩
set_option maxRecDepth 100000 in
theorem alike_yes (n : Nat) (v : ValD) (k : Int) (w : World) (B N : Nat) (cs ds : List Value) (hf : fitsV n v) (hN : N ≤ 4294967296) (hB : B ≤ w.heap.size) (hv : ValD.At w B N v cs) (hu : ValD.At w B N v ds) :
    Calls Tryd.prog 10 #[.agg cs.toArray, .int .i64 k, .agg ds.toArray, .int .i64 k] w (YesB w) := by
  have HF := Lib.hid hf
  have HV := Lib.hid hv
  have HU := Lib.hid hu
  have hl := Lib.hid (show (Tryd.prog.info? 30).map (·.size) = some cs.length by rw [hv.len]; exact sizeV)
  have hl2 := Lib.hid (show (Tryd.prog.info? 30).map (·.size) = some ds.length by rw [hu.len]; exact sizeV)
  have H0 := Lib.hid (show Below w.heap.size w ((w.alloc (.cells cs.toArray 30)).alloc (.cells ds.toArray 30)) from belowThen (belowBox w _) (belowBox _ _))
  have R0 := Lib.hid (show CellsAt ((w.alloc (.cells cs.toArray 30)).alloc (.cells ds.toArray 30)) w.heap.size 0 cs from (box_at w cs 30).then (belowBox _ _) (by rw [World.size_alloc]; omega))
  have R1 := Lib.hid (show CellsAt ((w.alloc (.cells cs.toArray 30)).alloc (.cells ds.toArray 30)) (w.heap.size + 1) 0 ds from by
    have := box_at (w.alloc (.cells cs.toArray 30)) ds 30
    rw [World.size_alloc] at this
    exact this)
  clear hf hv hu
  go_enter Tryd.func10, Tryd.ntmps10
  go_wp2_with (first
    | ((with_reducible show wpList _ _ _ (⟨some 13, _, _, _, _, _⟩ :: _) _ _); refine wpList_load_mid_g rfl 30 _ rfl w.heap.size 0 rfl cs _ R0.out.range Tryd.underlying30 rfl hl.out ?_)
    | ((with_reducible show wpList _ _ _ (⟨some 14, _, _, _, _, _⟩ :: _) _ _); refine wpList_load_mid_g rfl 30 _ rfl (w.heap.size + 1) 0 rfl ds _ R1.out.range Tryd.underlying30 rfl hl2.out ?_))
  refine (same_yes n v _ B N cs ds HF.out hN (Nat.le_trans hB H0.out.size) (HV.out.below (H0.out.mono hB)) (HU.out.below (H0.out.mono hB))).mono ?_
  rintro e w3 ⟨rfl, hb3⟩
  have H3 := Lib.hid (belowThen H0.out hb3)
  clear hb3
  go_wp2_with fail
  go_ret
  exact ⟨rfl, H3.out⟩
theorem zeroD_fits (n : Nat) : fitsV (n + 1) zeroD := ⟨fun x h => (by cases h), fun f h => (by cases h)⟩
theorem fieldV_fits (n : Nat) (key : ByteArray) : ∀ l : List (ByteArray × ValD), (∀ f ∈ l, fitsV (n + 1) f.2) → fitsV (n + 1) (fieldV key l)
  | [], _ => zeroD_fits n
  | (k, v) :: r, h => by
    unfold fieldV
    split
    · exact h (k, v) (by simp)
    · exact fieldV_fits n key r (fun f hf => h f (by simp [hf]))
theorem idxD_fits (n : Nat) (v i : ValD) (h : fitsV (n + 2) v) : fitsV (n + 1) (idxD v i).1 := by
  unfold idxD
  split
  · exact fieldV_fits n _ _ h.2
  · split
    · exact zeroD_fits n
    · split
      · split
        · exact zeroD_fits n
        · split
          · rw [List.getD_eq_getElem?_getD]
            cases hg : v.list[(atD i.num v.list.length).toNat]? with
            | none => exact zeroD_fits n
            | some x => exact h.1 x (List.mem_of_getElem? hg)
          · exact zeroD_fits n
      · exact zeroD_fits n
theorem eachD_fits (n : Nat) (v : ValD) (h : fitsV (n + 1) v) : ∀ x ∈ (eachD v).1, fitsV n x := by
  unfold eachD
  split
  · intro x hx
    rcases List.mem_append.1 hx with hx | hx
    · exact h.1 x hx
    · obtain ⟨f, hf, rfl⟩ := List.mem_map.1 hx
      exact h.2 f hf
  · intro x hx
    cases hx
end Go.Proofs.YtmbldgcbnkhabaaDoor
