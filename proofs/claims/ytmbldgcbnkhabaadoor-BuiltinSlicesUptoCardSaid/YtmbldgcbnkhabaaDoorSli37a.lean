/- A value as a result (datakitref37.result): the value, or the error why it is none. -/
import Derived.Test.YtmbldgcbnkhabaaDoorIdx37d
import Derived.Test.YtmbldgcbnkhabaaDoorChkp
namespace Go.Proofs.YtmbldgcbnkhabaaDoor
open Go.RowKit

/-- What a value as a result is. -/
def resD (v : ValD) : ValD × Int := if chkD v = 0 then (v, 0) else (zeroD, chkD v)
def ResR (B N : Nat) (r : ValD × Int) (w : World) (e : Ending) (w' : World) : Prop := ∃ (cs : List Value), e = .returned (.tuple #[.agg cs.toArray, .int .i64 r.2]) ∧ Solid B w.heap.size w' (fun c => ValD.At c c.heap.size N r.1 cs) ∧ Below w.heap.size w w'
theorem res_zero {B N : Nat} {w w1 : World} {g : Nat} {k : Int} {r : ValD × Int} (hr : r = (zeroD, k)) (hg : w.heap.size ≤ g) (hb : Below w.heap.size w w1) : ResR B N r w (.returned (.tuple #[.agg zeroV, .int .i64 k])) (w1.setRow g zeroV) := by
  rw [hr]
  exact ⟨zeroV.toList, rfl, fun _ _ => zeroD_at _ _ _, below_setRow hb hg _⟩
set_option maxRecDepth 100000 in
set_option maxHeartbeats 3200000 in
theorem result_ref (v : ValD) (w : World) (B N : Nat) (cs : List Value) (hN : N ≤ 4294967296) (hB : B ≤ w.heap.size) (hv : ValD.At w B N v cs) :
    Calls Tryd.prog 46 #[.agg cs.toArray] w (ResR B N (resD v) w) := by
  have HV := Lib.hid hv
  have hlen := hv.len
  have hl := Lib.hid (show (Tryd.prog.info? 30).map (·.size) = some cs.length by rw [hv.len]; exact sizeV)
  have H0 := Lib.hid (belowThen (belowBox w (.cells cs.toArray 30)) (belowBox (w.alloc (.cells cs.toArray 30)) (.cells zeroV 30)))
  have HS := Lib.hid (show ((w.alloc (.cells cs.toArray 30)).alloc (.cells zeroV 30)).heap.size = w.heap.size + 1 + 1 by rw [World.size_alloc, World.size_alloc])
  have R0 := Lib.hid ((box_at w cs 30).then (belowBox (w.alloc (.cells cs.toArray 30)) (.cells zeroV 30)) (by rw [World.size_alloc]; omega))
  have Z0 := Lib.hid (show RowAt ((w.alloc (.cells cs.toArray 30)).alloc (.cells zeroV 30)) (w.heap.size + 1) zeroV.toList from by
    have h := heap_alloc_new (w.alloc (.cells cs.toArray 30)) (.cells zeroV 30)
    rw [World.size_alloc] at h
    exact h)
  obtain ⟨k, hk⟩ : ∃ k, chkD v = k := ⟨_, rfl⟩
  have HK := Lib.hid hk
  clear hv
  go_enter Tryd.func46, Tryd.ntmps46
  go_wp2_with ((with_reducible show wpList _ _ _ (⟨some 5, _, _, _, _, _⟩ :: _) _ _); refine wpList_load_mid rfl 30 _ rfl w.heap.size 0 rfl cs _ R0.out.range Tryd.underlying30 rfl hl.out ?_)
  refine (check07_exact v _ B N cs hN (Nat.le_trans hB H0.out.size) (HV.out.below (H0.out.mono hB))).mono ?_
  rintro e w1 ⟨rfl, hb1⟩
  have H1 := Lib.hid (belowThen H0.out hb1)
  have R1 := Lib.hid (R0.out.then hb1 (by rw [HS.out]; omega))
  have Z1 := Lib.hid (Z0.out.below hb1 (by rw [HS.out]; omega))
  have hs1 : w.heap.size + 1 + 1 ≤ w1.heap.size := by have := hb1.size; rw [HS.out] at this; omega
  clear hb1
  rw [hk]
  clear hk
  by_cases hk0 : k = 0
  · have HR := Lib.hid (show resD v = (v, 0) by unfold resD; rw [if_pos (by rw [HK.out]; exact hk0)])
    subst hk0
    go_wp2_with (first
      | ((with_reducible show wpList _ _ _ (⟨some 11, _, _, _, _, _⟩ :: _) _ _); refine wpList_load_mid rfl 30 _ rfl w.heap.size 0 rfl cs _ R1.out.range Tryd.underlying30 rfl hl.out ?_)
      | ((with_reducible show wpList _ _ _ (⟨none, .store 30 (.tmp 2) _, _, _, _, _⟩ :: _) _ _); refine wpList_store_row rfl 30 _ _ rfl (w.heap.size + 1) cs.toArray rfl rfl 30 zeroV Z1.out (row_size hlen) (row_zero hlen) (row_ones HV.out) ?_))
    refine bodyPost_ret (results_cell_row2 rfl _ _ (w.heap.size + 1) 30 _ (0, 0) _ rfl (setRow_heap _ _ _ _ _ _ Z1.out) Tryd.underlying30 rfl (row_size hlen)) rfl ?_
    rw [HR.out]
    have hb := below_setRow (g := w.heap.size + 1) H1.out (by omega) cs.toArray
    have hB2 := Nat.le_trans hB hb.size
    exact ⟨cs, rfl, fun c hc => ((HV.out.below (hb.mono hB)).below (hc.below hB2)).mono (Nat.le_trans hB2 hc.size), hb⟩
  · have HR := Lib.hid (show resD v = (zeroD, k) by unfold resD; rw [if_neg (by rw [HK.out]; exact hk0), HK.out])
    have hk1 : (k == 0) = false := by simpa using hk0
    have hk2 : (k != 0) = true := by simpa using hk0
    clear hk0
    go_wp2_with ((with_reducible show wpList _ _ _ (⟨none, .store 30 (.tmp 2) _, _, _, _, _⟩ :: _) _ _); refine wpList_store_row rfl 30 _ _ rfl (w.heap.size + 1) zeroV rfl rfl 30 zeroV Z1.out sizeZ rfl oneZ ?_)
    refine bodyPost_ret (results_cell_row2 rfl _ _ (w.heap.size + 1) 30 _ (0, 0) _ rfl (setRow_heap _ _ _ _ _ _ Z1.out) Tryd.underlying30 rfl sizeZ) rfl ?_
    exact res_zero HR.out (by omega) H1.out
end Go.Proofs.YtmbldgcbnkhabaaDoor

/- A value as a result (builtin.valid): a copy of the value, or the error why it is none. -/
namespace Go.Proofs.YtmbldgcbnkhabaaDoor
open Go.RowKit

set_option maxRecDepth 100000 in
set_option maxHeartbeats 3200000 in
theorem valid_prog (n : Nat) (v : ValD) (w : World) (B N : Nat) (cs : List Value) (hn : n ≤ 65536) (hf : fitsV n v) (hN : N ≤ 4294967296) (hB : B ≤ w.heap.size) (hv : ValD.At w B N v cs) :
    Calls Tryd.prog 45 #[.agg cs.toArray, .int .i64 0] w (ResR B N (resD v) w) := by
  have HV := Lib.hid hv
  have HFT := Lib.hid hf
  have hl := Lib.hid (show (Tryd.prog.info? 30).map (·.size) = some cs.length by rw [hv.len]; exact sizeV)
  have H0 := Lib.hid (belowThen (belowBox w (.cells cs.toArray 30)) (belowBox (w.alloc (.cells cs.toArray 30)) (.cells zeroV 30)))
  have HS := Lib.hid (show ((w.alloc (.cells cs.toArray 30)).alloc (.cells zeroV 30)).heap.size = w.heap.size + 1 + 1 by rw [World.size_alloc, World.size_alloc])
  have R0 := Lib.hid ((box_at w cs 30).then (belowBox (w.alloc (.cells cs.toArray 30)) (.cells zeroV 30)) (by rw [World.size_alloc]; omega))
  have Z0 := Lib.hid (show RowAt ((w.alloc (.cells cs.toArray 30)).alloc (.cells zeroV 30)) (w.heap.size + 1) zeroV.toList from by
    have h := heap_alloc_new (w.alloc (.cells cs.toArray 30)) (.cells zeroV 30)
    rw [World.size_alloc] at h
    exact h)
  obtain ⟨k, hk⟩ : ∃ k, chkD v = k := ⟨_, rfl⟩
  have HK := Lib.hid hk
  clear hv hf
  go_enter Tryd.func45, Tryd.ntmps45
  go_wp2_with ((with_reducible show wpList _ _ _ (⟨some 8, _, _, _, _, _⟩ :: _) _ _); refine wpList_load_mid rfl 30 _ rfl w.heap.size 0 rfl cs _ R0.out.range Tryd.underlying30 rfl hl.out ?_)
  refine (vcheck_exact v _ B N cs hN (Nat.le_trans hB H0.out.size) (HV.out.below (H0.out.mono hB))).mono ?_
  rintro e w1 ⟨rfl, hb1⟩
  have H1 := Lib.hid (belowThen H0.out hb1)
  have R1 := Lib.hid (R0.out.then hb1 (by rw [HS.out]; omega))
  have Z1 := Lib.hid (Z0.out.below hb1 (by rw [HS.out]; omega))
  have hs1 : w.heap.size + 1 + 1 ≤ w1.heap.size := by have := hb1.size; rw [HS.out] at this; omega
  clear hb1
  rw [hk]
  clear hk
  by_cases hk0 : k = 0
  · have HR := Lib.hid (show resD v = (v, 0) by unfold resD; rw [if_pos (by rw [HK.out]; exact hk0)])
    subst hk0
    go_wp2_with ((with_reducible show wpList _ _ _ (⟨some 14, _, _, _, _, _⟩ :: _) _ _); refine wpList_load_mid rfl 30 _ rfl w.heap.size 0 rfl cs _ R1.out.range Tryd.underlying30 rfl hl.out ?_)
    refine (copy_ex n v _ B N cs hn HFT.out hN (Nat.le_trans hB H1.out.size) (HV.out.below (H1.out.mono hB))).mono ?_
    rintro e w2 ⟨cs2, rfl, hsafe, hb2⟩
    have S2 := Lib.hid hsafe
    have A2 := Lib.hid hsafe.here
    have hlen := hsafe.here.len
    have H2 := Lib.hid (belowThen H1.out hb2)
    have Z2 := Lib.hid (Z1.out.below hb2 (by omega))
    have hs2 : w.heap.size + 1 + 1 ≤ w2.heap.size := Nat.le_trans hs1 hb2.size
    clear hsafe hb2
    go_wp2_with ((with_reducible show wpList _ _ _ (⟨none, .store 30 (.tmp 4) _, _, _, _, _⟩ :: _) _ _); refine wpList_store_row rfl 30 _ _ rfl (w.heap.size + 1) cs2.toArray rfl rfl 30 zeroV Z2.out (row_size hlen) (row_zero hlen) (row_ones A2.out) ?_)
    refine bodyPost_ret (results_cell_row2 rfl _ _ (w.heap.size + 1) 30 _ (0, 0) _ rfl (setRow_heap _ _ _ _ _ _ Z2.out) Tryd.underlying30 rfl (row_size hlen)) rfl ?_
    rw [HR.out]
    have S3 := (S2.out.next (no2 := none) (keep_setRow w2 (w.heap.size + 1) w1.heap.size cs2.toArray (by omega)) (fun q _ h => by cases h)).wide (L := w.heap.size) (by omega)
    exact ⟨cs2, rfl, fun c hc => S3 c hc.keep, below_setRow H2.out (by omega) _⟩
  · have HR := Lib.hid (show resD v = (zeroD, k) by unfold resD; rw [if_neg (by rw [HK.out]; exact hk0), HK.out])
    have hk1 : (k == 0) = false := by simpa using hk0
    have hk2 : (k != 0) = true := by simpa using hk0
    clear hk0
    go_wp2_with ((with_reducible show wpList _ _ _ (⟨none, .store 30 (.tmp 4) _, _, _, _, _⟩ :: _) _ _); refine wpList_store_row rfl 30 _ _ rfl (w.heap.size + 1) zeroV rfl rfl 30 zeroV Z1.out sizeZ rfl oneZ ?_)
    refine bodyPost_ret (results_cell_row2 rfl _ _ (w.heap.size + 1) 30 _ (0, 0) _ rfl (setRow_heap _ _ _ _ _ _ Z1.out) Tryd.underlying30 rfl sizeZ) rfl ?_
    exact res_zero HR.out (by omega) H1.out
end Go.Proofs.YtmbldgcbnkhabaaDoor

/- A list as a result (datakitref37.list, builtin.list). -/
namespace Go.Proofs.YtmbldgcbnkhabaaDoor
open Go.RowKit

def lisD (l : List ValD) : ValD := .mk 6 false ⟨false, ⟨#[]⟩, 0⟩ ⟨0, 0, 0, 0⟩ ⟨#[]⟩ [] l []
def lisR (l : List ValD) (a : Option Addr) (c : Nat) : List Value := [.int .i64 6, .bool false, .bool false, .string ⟨#[]⟩, .int .i64 0, .int .i64 0, .int .i64 0, .int .i64 0, .int .i64 0, .string ⟨#[]⟩, .slice none 0 0, .slice a l.length c, .slice none 0 0]
theorem lisD_at {w : World} {B N : Nat} {l : List ValD} {a : Option Addr} (c : Nat) (hl : l.length ≤ N) (h : ValsAt w B N l a) : ValD.At w B N (lisD l) (lisR l a c) :=
  ⟨none, a, none, 0, c, 0, rfl, ⟨⟨by show (-9223372036854775808 : Int) ≤ 6; omega, by show (6 : Int) ≤ _; omega⟩, i64_0, i64_0, i64_0, i64_0, i64_0, Nat.zero_le _, Nat.zero_le _, Nat.zero_le _, hl, Nat.zero_le _⟩, .inl rfl, h, trivial⟩
theorem Apart.after {B L L2 : Nat} {a b c : World} (h : Apart B L a b) (k : Apart B L2 b c) (hL : L2 ≤ L) : Apart B L a c :=
  ⟨k.os.trans h.os, k.tape.trans h.tape, k.output.trans h.output, Nat.le_trans h.size k.size, fun q hq hor => (k.block q (Nat.lt_of_lt_of_le hq h.size) (by omega)).trans (h.block q hq hor)⟩
set_option maxRecDepth 100000 in
set_option maxHeartbeats 1600000 in
theorem list_ref (l : List ValD) (a : Option Addr) (c : Nat) (w : World) (B N : Nat) (hN : N ≤ 4294967296) (hl : l.length ≤ N) (hB : B ≤ w.heap.size) (h : ValsAt w B N l a) :
    Calls Tryd.prog 35 #[.slice a l.length c] w (ResR B N (resD (lisD l)) w) := by
  have HA := Lib.hid (lisD_at c hl h)
  have H0 := Lib.hid (belowBox w (.cells zeroV 30))
  have Z0 := Lib.hid (show RowAt (w.alloc (.cells zeroV 30)) w.heap.size zeroV.toList from heap_alloc_new w (.cells zeroV 30))
  clear h
  go_enter Tryd.func35, Tryd.ntmps35
  go_wp2_with fail
  refine (result_ref (lisD l) _ B N (lisR l a c) hN (Nat.le_trans hB H0.out.size) (HA.out.below (H0.out.mono hB))).mono ?_
  rintro e w1 ⟨cs2, rfl, hsol, hb⟩
  obtain ⟨r, hr⟩ : ∃ r, resD (lisD l) = r := ⟨_, rfl⟩
  have HR := Lib.hid hr
  rw [hr] at hsol ⊢
  have hlen := hsol.here.len
  have AT := Lib.hid hsol.here
  have S1 := Lib.hid hsol
  have H1 := Lib.hid (belowThen H0.out hb)
  have Z1 := Lib.hid (Z0.out.below hb (by rw [World.size_alloc]; omega))
  clear hsol hb hr
  obtain ⟨rv, rk⟩ := r
  go_wp2_with ((with_reducible show wpList _ _ _ (⟨none, .store 30 (.tmp 2) _, _, _, _, _⟩ :: _) _ _); refine wpList_store_row rfl 30 _ _ rfl w.heap.size cs2.toArray rfl rfl 30 zeroV Z1.out (row_size hlen) (row_zero hlen) (row_ones AT.out) ?_)
  refine bodyPost_ret (results_cell_row2 rfl _ _ w.heap.size 30 _ (0, 0) _ rfl (setRow_heap _ _ _ _ _ _ Z1.out) Tryd.underlying30 rfl (row_size hlen)) rfl ?_
  rw [HR.out]
  refine ⟨cs2, rfl, fun d hd => S1.out d ?_, below_setRow H1.out (Nat.le_refl _) _⟩
  exact (Apart.of_setRow0 cs2.toArray hB (by rw [World.size_alloc]; omega)).after hd (by rw [World.size_alloc]; omega)
set_option maxRecDepth 100000 in
set_option maxHeartbeats 1600000 in
theorem list_prog (n : Nat) (hn : n + 1 ≤ 65536) (l : List ValD) (hf : ∀ x ∈ l, fitsV n x) (a : Option Addr) (c : Nat) (w : World) (B N : Nat) (hN : N ≤ 4294967296) (hl : l.length ≤ N) (hB : B ≤ w.heap.size) (h : ValsAt w B N l a) :
    Calls Tryd.prog 30 #[.slice a l.length c] w (ResR B N (resD (lisD l)) w) := by
  have HF := Lib.hid (show fitsV (n + 1) (lisD l) from ⟨hf, fun f hf => by cases hf⟩)
  have HA := Lib.hid (lisD_at c hl h)
  have H0 := Lib.hid (belowBox w (.cells zeroV 30))
  have Z0 := Lib.hid (show RowAt (w.alloc (.cells zeroV 30)) w.heap.size zeroV.toList from heap_alloc_new w (.cells zeroV 30))
  clear h hf
  go_enter Tryd.func30, Tryd.ntmps30
  go_wp2_with fail
  refine (valid_prog (n + 1) (lisD l) _ B N (lisR l a c) hn HF.out hN (Nat.le_trans hB H0.out.size) (HA.out.below (H0.out.mono hB))).mono ?_
  rintro e w1 ⟨cs2, rfl, hsol, hb⟩
  obtain ⟨r, hr⟩ : ∃ r, resD (lisD l) = r := ⟨_, rfl⟩
  have HR := Lib.hid hr
  rw [hr] at hsol ⊢
  have hlen := hsol.here.len
  have AT := Lib.hid hsol.here
  have S1 := Lib.hid hsol
  have H1 := Lib.hid (belowThen H0.out hb)
  have Z1 := Lib.hid (Z0.out.below hb (by rw [World.size_alloc]; omega))
  clear hsol hb hr
  obtain ⟨rv, rk⟩ := r
  go_wp2_with ((with_reducible show wpList _ _ _ (⟨none, .store 30 (.tmp 2) _, _, _, _, _⟩ :: _) _ _); refine wpList_store_row rfl 30 _ _ rfl w.heap.size cs2.toArray rfl rfl 30 zeroV Z1.out (row_size hlen) (row_zero hlen) (row_ones AT.out) ?_)
  refine bodyPost_ret (results_cell_row2 rfl _ _ w.heap.size 30 _ (0, 0) _ rfl (setRow_heap _ _ _ _ _ _ Z1.out) Tryd.underlying30 rfl (row_size hlen)) rfl ?_
  rw [HR.out]
  refine ⟨cs2, rfl, fun d hd => S1.out d ?_, below_setRow H1.out (Nat.le_refl _) _⟩
  exact (Apart.of_setRow0 cs2.toArray hB (by rw [World.size_alloc]; omega)).after hd (by rw [World.size_alloc]; omega)
end Go.Proofs.YtmbldgcbnkhabaaDoor

/- A text as a result (datakitref37.text, value.Text). -/
namespace Go.Proofs.YtmbldgcbnkhabaaDoor
open Go.RowKit

def textD (s : ByteArray) : ValD := .mk 4 false ⟨false, ⟨#[]⟩, 0⟩ ⟨0, 0, 0, 0⟩ s [] [] []
def textR (s : ByteArray) : List Value := [.int .i64 4, .bool false, .bool false, .string ⟨#[]⟩, .int .i64 0, .int .i64 0, .int .i64 0, .int .i64 0, .int .i64 0, .string s, .slice none 0 0, .slice none 0 0, .slice none 0 0]
theorem textD_at {w : World} {B N : Nat} {s : ByteArray} (hs : s.size ≤ N) : ValD.At w B N (textD s) (textR s) :=
  ⟨none, none, none, 0, 0, 0, rfl, ⟨⟨by show (-9223372036854775808 : Int) ≤ 4; omega, by show (4 : Int) ≤ _; omega⟩, i64_0, i64_0, i64_0, i64_0, i64_0, Nat.zero_le _, hs, Nat.zero_le _, Nat.zero_le _, Nat.zero_le _⟩, .inl rfl, trivial, trivial⟩
set_option maxRecDepth 100000 in
set_option maxHeartbeats 1600000 in
theorem text_ref (s : ByteArray) (w : World) (B N : Nat) (hN : N ≤ 4294967296) (hs : s.size ≤ N) (hB : B ≤ w.heap.size) :
    Calls Tryd.prog 34 #[.string s] w (ResR B N (resD (textD s)) w) := by
  have H0 := Lib.hid (belowBox w (.cells zeroV 30))
  have Z0 := Lib.hid (show RowAt (w.alloc (.cells zeroV 30)) w.heap.size zeroV.toList from heap_alloc_new w (.cells zeroV 30))
  go_enter Tryd.func34, Tryd.ntmps34
  go_wp2_with fail
  refine (result_ref (textD s) _ B N (textR s) hN (Nat.le_trans hB H0.out.size) (textD_at hs)).mono ?_
  rintro e w1 ⟨cs2, rfl, hsol, hb⟩
  obtain ⟨r, hr⟩ : ∃ r, resD (textD s) = r := ⟨_, rfl⟩
  have HR := Lib.hid hr
  rw [hr] at hsol ⊢
  have hlen := hsol.here.len
  have AT := Lib.hid hsol.here
  have S1 := Lib.hid hsol
  have H1 := Lib.hid (belowThen H0.out hb)
  have Z1 := Lib.hid (Z0.out.below hb (by rw [World.size_alloc]; omega))
  clear hsol hb hr
  obtain ⟨rv, rk⟩ := r
  go_wp2_with ((with_reducible show wpList _ _ _ (⟨none, .store 30 (.tmp 2) _, _, _, _, _⟩ :: _) _ _); refine wpList_store_row rfl 30 _ _ rfl w.heap.size cs2.toArray rfl rfl 30 zeroV Z1.out (row_size hlen) (row_zero hlen) (row_ones AT.out) ?_)
  refine bodyPost_ret (results_cell_row2 rfl _ _ w.heap.size 30 _ (0, 0) _ rfl (setRow_heap _ _ _ _ _ _ Z1.out) Tryd.underlying30 rfl (row_size hlen)) rfl ?_
  rw [HR.out]
  refine ⟨cs2, rfl, fun d hd => S1.out d ?_, below_setRow H1.out (Nat.le_refl _) _⟩
  exact (Apart.of_setRow0 cs2.toArray hB (by rw [World.size_alloc]; omega)).after hd (by rw [World.size_alloc]; omega)
theorem dec0_refl : decB ⟨false, ⟨#[]⟩, 0⟩ ⟨false, ⟨#[]⟩, 0⟩ = true := by simp [decB]
theorem time0_refl : timeB ⟨0, 0, 0, 0⟩ ⟨0, 0, 0, 0⟩ = true := by simp [timeB]
theorem resD_text {s : ByteArray} (hv : validS s = true) (hs : s.size ≤ 65536) : resD (textD s) = (textD s, 0) := by
  have ho : ownB (textD s) = true := (ownB_iff _).2 ⟨by show (0 : Int) ≤ 4; omega, by show (4 : Int) ≤ 7; omega, fun _ => rfl, fun _ => dec0_refl, fun _ => time0_refl, fun h => absurd rfl h, fun _ => rfl, fun _ => rfl, fun _ => rfl⟩
  have hd : vdecB (textD s).num = true := vdec_zero dec0_refl
  have hq : ¬ (vdecB (textD s).num = false ∨ ((textD s).kind = 3 ∧ vtimeB (textD s).time = false)) := by
    rw [hd]
    rintro (h | ⟨h, _⟩)
    · cases h
    · exact absurd h (by show ¬ (4 : Int) = 3; omega)
  have h1 : oneE (textD s) = 0 := by
    rw [oneE_k ho hq hv (by show ¬ (65536 < s.size ∨ 65536 < 0); omega)]
    rfl
  have h2 : chkD (textD s) = 0 := by
    unfold chkD
    rw [show lookD 48 (textD s) 0 = if (65536 : Int) ≤ 0 then (0, 10) else if oneE (textD s) = 0 then kidsL (lookD 47) (kidsD (textD s)) (0 + 1) else (0, oneE (textD s)) from rfl, if_neg (by omega), if_pos h1]
    rfl
  unfold resD
  rw [if_pos h2]
end Go.Proofs.YtmbldgcbnkhabaaDoor

/- value.Text: what it gives. -/
namespace Go.Proofs.YtmbldgcbnkhabaaDoor
open Go.RowKit

def TxtR (s : ByteArray) (w : World) (e : Ending) (w' : World) : Prop := e = .returned (.agg (textR s).toArray) ∧ Below w.heap.size w w'
set_option maxRecDepth 100000 in
set_option maxHeartbeats 1600000 in
theorem text_prog (s : ByteArray) (w : World) : Calls Tryd.prog 28 #[.string s] w (TxtR s w) := by
  have Z0 := Lib.hid (heap_alloc_new w (.cells (textR s).toArray 30))
  go_enter Tryd.func28, Tryd.ntmps28
  go_wp2_with fail
  refine bodyPost_ret (results_cell_row rfl _ _ w.heap.size 30 (textR s).toArray (0, 0) _ rfl Z0.out Tryd.underlying30 rfl (row_size rfl)) rfl ?_
  exact ⟨rfl, belowBox w _⟩
end Go.Proofs.YtmbldgcbnkhabaaDoor
