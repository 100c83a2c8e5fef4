/- value.Copy, value.Field, datakitref07.Field: what they give. -/
import Derived.Test.YtmbldgcbnkhabaaDoorIdx37a
namespace Go.Proofs.YtmbldgcbnkhabaaDoor
open Go.RowKit

def zeroD : ValD := .mk 0 false ⟨false, ⟨#[]⟩, 0⟩ ⟨0, 0, 0, 0⟩ ⟨#[]⟩ [] [] []
theorem i64_0 : I64 0 := ⟨by omega, by omega⟩
theorem zeroD_at (w : World) (B N : Nat) : ValD.At w B N zeroD zeroV.toList :=
  ⟨none, none, none, 0, 0, 0, rfl, ⟨i64_0, i64_0, i64_0, i64_0, i64_0, i64_0, Nat.zero_le _, Nat.zero_le _, Nat.zero_le _, Nat.zero_le _, Nat.zero_le _⟩, .inl rfl, trivial, trivial⟩
theorem sizeZ : (Tryd.prog.info? 30).map (·.size) = some zeroV.size := sizeV
theorem oneZ : zeroV.all (·.oneCell') = true := by kernel_rfl
theorem row_size {cs : List Value} (h : cs.length = 13) : (Tryd.prog.info? 30).map (·.size) = some cs.toArray.size := by rw [List.size_toArray, h]; exact sizeV
theorem row_zero {cs : List Value} (h : cs.length = 13) : zeroV.toList.toArray.size = cs.toArray.size := by rw [List.size_toArray, List.size_toArray, h]; rfl
theorem row_ones {w : World} {B N : Nat} {v : ValD} {cs : List Value} (h : ValD.At w B N v cs) : cs.toArray.all (·.oneCell') = true := Go.all_oneCell_toArray h.oneCell
theorem keep_setRow (w : World) (g L : Nat) (cs : Array Value) (hg : g < L) : Keep L none w (w.setRow g cs) := ⟨by simp, fun q h1 _ _ => setRow_other _ _ _ _ (by omega)⟩
theorem new_row (w : World) (o : Obj) (cs : List Value) : RowAt ((w.alloc o).alloc (.cells cs.toArray 30)) (w.heap.size + 1) cs := by
  have := heap_alloc_new (w.alloc o) (.cells cs.toArray 30)
  rw [World.size_alloc] at this
  exact this

set_option maxRecDepth 100000 in
set_option maxHeartbeats 1600000 in
theorem copy_ex (n : Nat) (v : ValD) (w : World) (B N : Nat) (cs : List Value) (hn : n ≤ 65536) (hf : fitsV n v) (hN : N ≤ 4294967296) (hB : B ≤ w.heap.size) (hv : ValD.At w B N v cs) :
    Calls Tryd.prog 19 #[.agg cs.toArray] w (CopR N v w) := by
  have HV := Lib.hid hv
  have HF := Lib.hid hf
  have hl := Lib.hid (show (Tryd.prog.info? 30).map (·.size) = some cs.length by rw [hv.len]; exact sizeV)
  have H0 := Lib.hid (show Below w.heap.size w ((w.alloc (.cells cs.toArray 30)).alloc (.cells zeroV 30)) from belowThen (belowBox w _) (belowBox _ _))
  have R0 := Lib.hid (show CellsAt ((w.alloc (.cells cs.toArray 30)).alloc (.cells zeroV 30)) w.heap.size 0 cs from (box_at w cs 30).then (belowBox _ _) (by rw [World.size_alloc]; omega))
  have Q0 := Lib.hid (show RowAt ((w.alloc (.cells cs.toArray 30)).alloc (.cells zeroV 30)) (w.heap.size + 1) zeroV.toList from new_row w _ zeroV.toList)
  have hsz : ((w.alloc (.cells cs.toArray 30)).alloc (.cells zeroV 30)).heap.size = w.heap.size + 2 := by rw [World.size_alloc, World.size_alloc]
  have HSZ := Lib.hid hsz
  clear hv hf hsz
  go_enter Tryd.func19, Tryd.ntmps19
  go_wp2_with (refine wpList_load_mid rfl 30 _ rfl w.heap.size 0 rfl cs _ R0.out.range Tryd.underlying30 rfl hl.out ?_)
  refine (copied_ex n v _ B N cs 65536 (by omega) (by omega) HF.out hN (Nat.le_trans hB H0.out.size) (HV.out.below (H0.out.mono hB))).mono ?_
  rintro e w1 ⟨cs2, rfl, hsafe, hb⟩
  have hs1 : w.heap.size + 2 ≤ w1.heap.size := by have := hb.size; rw [HSZ.out] at this; exact this
  have Q1 := Lib.hid (Q0.out.below hb (by rw [HSZ.out]; omega))
  have H1 := Lib.hid (belowThen H0.out hb)
  have S1 := Lib.hid (show Safe (w.heap.size + 2) none w1 (fun c => ValD.At c c.heap.size N v cs2) by rw [← HSZ.out]; exact hsafe)
  have A1 := Lib.hid hsafe.here
  have hlen := hsafe.here.len
  clear hsafe hb
  go_wp2_with (refine wpList_store_row rfl 30 _ _ rfl (w.heap.size + 1) cs2.toArray rfl rfl 30 zeroV Q1.out (row_size hlen) (row_zero hlen) (row_ones A1.out) ?_)
  refine bodyPost_ret (results_cell_row rfl _ _ (w.heap.size + 1) 30 _ (0, 0) _ rfl (setRow_heap _ _ _ _ _ _ Q1.out) Tryd.underlying30 rfl (row_size hlen)) rfl ?_
  exact ⟨cs2, rfl, (S1.out.next (keep_setRow w1 (w.heap.size + 1) (w.heap.size + 2) _ (by omega)) (fun q _ h => by cases h)).wide (by omega), below_setRow H1.out (by omega) _⟩

/-- The value under a key; the zero value if there is none. -/
def fieldV (key : ByteArray) : List (ByteArray × ValD) → ValD
  | [] => zeroD
  | (k, v) :: r => if k.toList = key.toList then v else fieldV key r
theorem fieldV_hit {key : ByteArray} {l : List (ByteArray × ValD)} {k : Nat} (h : k < l.length) (he : l[k].1.toList = key.toList) : fieldV key (l.drop k) = l[k].2 := by
  rw [List.drop_eq_getElem_cons h, ← Prod.eta l[k]]
  simp [fieldV, he]
theorem fieldV_miss {key : ByteArray} {l : List (ByteArray × ValD)} {k : Nat} (h : k < l.length) (he : ¬ l[k].1.toList = key.toList) : fieldV key (l.drop k) = fieldV key (l.drop (k + 1)) := by
  rw [List.drop_eq_getElem_cons h, ← Prod.eta l[k]]
  simp [fieldV, he]
theorem fieldV_end {key : ByteArray} {l : List (ByteArray × ValD)} : fieldV key (l.drop l.length) = zeroD := by rw [List.drop_length]; rfl
/-- Below B and from L on, c is as w. -/
structure Apart (B L : Nat) (w c : World) : Prop where
  os : c.os = w.os
  tape : c.tape = w.tape
  output : c.output = w.output
  size : w.heap.size ≤ c.heap.size
  block : ∀ q, q < w.heap.size → q < B ∨ L ≤ q → c.heap[q]? = w.heap[q]?
theorem Apart.below {B L : Nat} {w c : World} (h : Apart B L w c) (hB : B ≤ w.heap.size) : Below B w c := ⟨h.os, h.tape, h.output, h.size, fun q hq => h.block q (by omega) (.inl hq)⟩
theorem Apart.keep {B L : Nat} {w c : World} (h : Apart B L w c) : Keep L none w c := ⟨h.size, fun q h1 h2 _ => h.block q h2 (.inr h1)⟩
theorem Apart.of_setRow {B L g : Nat} {w : World} (o : Obj) (cs : Array Value) (h1 : B ≤ g) (h2 : g < L) : Apart B L w ((w.alloc o).setRow g cs) := by
  refine ⟨rfl, rfl, rfl, by simp, fun q hq hor => ?_⟩
  rw [setRow_other _ _ _ _ (by omega)]
  exact heap_alloc_old w o hq
theorem Apart.of_setRow0 {B L g : Nat} {w : World} (cs : Array Value) (h1 : B ≤ g) (h2 : g < L) : Apart B L w (w.setRow g cs) := by
  refine ⟨rfl, rfl, rfl, by simp, fun q hq hor => ?_⟩
  rw [setRow_other _ _ _ _ (by omega)]
def Solid (B L : Nat) (w : World) (T : World → Prop) : Prop := ∀ c, Apart B L w c → T c
theorem Solid.here {B L : Nat} {w : World} {T : World → Prop} (h : Solid B L w T) : T w := h w ⟨rfl, rfl, rfl, Nat.le_refl _, fun _ _ _ => rfl⟩
def FldR (B N : Nat) (v : ValD) (w : World) (e : Ending) (w' : World) : Prop := ∃ (cs : List Value) (b : Bool), e = .returned (.tuple #[.agg cs.toArray, .bool b]) ∧ Solid B w.heap.size w' (fun c => ValD.At c c.heap.size N v cs) ∧ Below w.heap.size w w'

set_option maxRecDepth 100000 in
set_option maxHeartbeats 3200000 in
theorem field_ref (v : ValD) (key : ByteArray) (w : World) (B N : Nat) (cs : List Value) (hN : N ≤ 4294967296) (hB : B ≤ w.heap.size) (hv : ValD.At w B N v cs) :
    Calls Tryd.prog 20 #[.agg cs.toArray, .string key] w (FldR B N (fieldV key v.fields) w) := by
  obtain ⟨ya, la, va, yc, lc, vc, hh⟩ := hv.has
  have hfl : v.fields.length ≤ N := hh.own.2.2.2.2.2.2.2.2.2.2
  have HH := Lib.hid hh
  clear hv hh
  have H0 := Lib.hid (show Below w.heap.size w ((w.alloc (.cells cs.toArray 30)).alloc (.cells zeroV 30)) from belowThen (belowBox w _) (belowBox _ _))
  have R0 := Lib.hid (show CellsAt ((w.alloc (.cells cs.toArray 30)).alloc (.cells zeroV 30)) w.heap.size 0 cs from (box_at w cs 30).then (belowBox _ _) (by rw [World.size_alloc]; omega))
  have Q0 := Lib.hid (show RowAt ((w.alloc (.cells cs.toArray 30)).alloc (.cells zeroV 30)) (w.heap.size + 1) zeroV.toList from new_row w _ zeroV.toList)
  go_enter Tryd.func20, Tryd.ntmps20
  go_wp2_with fail
  go_simp
  go_loopw [6] (fun i wr => ∃ (k : Nat), k ≤ v.fields.length ∧ i = .int .i64 k ∧ Hid (fieldV key v.fields = fieldV key (v.fields.drop k)) ∧ Hid (CellsAt wr w.heap.size 0 cs) ∧ Hid (RowAt wr (w.heap.size + 1) zeroV.toList) ∧ Hid (Below w.heap.size w wr) ∧ w.heap.size + 2 ≤ wr.heap.size)
    (fun i _ => v.fields.length - (intOf i).toNat)
  case atStart => exact ⟨0, by omega, rfl, Lib.hid rfl, R0, Q0, H0, by simp⟩
  case round =>
    clear R0 Q0 H0
    obtain ⟨w1, rfl⟩ : ∃ w1, w1 = wr := ⟨wr, rfl⟩
    obtain ⟨k, hk, rfl, HE, R0, Q0, H0, hs⟩ := hrel
    have c12 := R0.out.get0 HH.out.fields
    by_cases hlt : k < v.fields.length
    · obtain ⟨b1, o1, rfl, hb1, hget1⟩ := (HH.out.atFields.below (H0.out.mono hB)).get (by intro h; simp [h] at hlt)
      obtain ⟨cs1, _, h1, h2⟩ := hget1 k hlt
      obtain ⟨ky, hky⟩ : ∃ ky, ky = v.fields[k].1 := ⟨_, rfl⟩
      rw [← hky] at h1
      have e1 := h1.get0' (v := .string ky) rfl
      have HR := Lib.hid h1.tail.range
      have HV1 := Lib.hid h2
      have hlen := h2.len
      have hl1 := Lib.hid (show (Tryd.prog.info? 30).map (·.size) = some cs1.length by rw [h2.len]; exact sizeV)
      by_cases hq : ky.toList = key.toList
      · have q1 : (ky.toList == key.toList) = true := by simpa using hq
        have HE2 := Lib.hid (show fieldV key v.fields = v.fields[k].2 by rw [HE.out]; exact fieldV_hit hlt (by rw [← hky]; exact hq))
        clear hq hky h1 h2 hget1
        go_wp2_with (first
          | (refine wpList_load_mid rfl 30 _ rfl b1 (o1 + k * 14 + 1) rfl cs1 _ HR.out Tryd.underlying30 rfl hl1.out ?_)
          | (refine wpList_store_row rfl 30 _ _ rfl (w.heap.size + 1) cs1.toArray rfl rfl 30 zeroV Q0.out (row_size hlen) (row_zero hlen) (row_ones HV1.out) ?_))
        refine bodyPost_ret (results_cell_row2 rfl _ _ (w.heap.size + 1) 30 _ (0, 0) _ rfl (setRow_heap _ _ _ _ _ _ Q0.out) Tryd.underlying30 rfl (row_size hlen)) rfl ?_
        refine ⟨cs1, _, rfl, fun c hc => ?_, below_setRow H0.out (by omega) _⟩
        rw [HE2.out]
        have hc2 := hc.size
        simp only [size_setRow] at hc2
        exact (HV1.out.below (((below_setRow (Below.refl (w.heap.size + 1) w1) (Nat.le_refl _) _).mono (by omega)).trans (hc.below (by simp; omega)))).mono (by omega)
      · have q1 : (ky.toList == key.toList) = false := by simpa using hq
        have HE2 := Lib.hid (show fieldV key v.fields = fieldV key (v.fields.drop (k + 1)) by rw [HE.out]; exact fieldV_miss hlt (by rw [← hky]; exact hq))
        clear hq hky h1 h2 hget1
        go_wp2_with fail
        go_roundw
        case rel => exact ⟨k + 1, by omega, by go_num, HE2, R0, Q0, H0, hs⟩
        case measure => simp [intOf]; omega
    · obtain rfl : k = v.fields.length := by omega
      have HE2 := Lib.hid (show fieldV key v.fields = zeroD by rw [HE.out]; exact fieldV_end)
      go_wp2_with (refine wpList_store_row rfl 30 _ _ rfl (w.heap.size + 1) zeroV rfl rfl 30 zeroV Q0.out sizeZ rfl oneZ ?_)
      refine bodyPost_ret (results_cell_row2 rfl _ _ (w.heap.size + 1) 30 _ (0, 0) _ rfl (setRow_heap _ _ _ _ _ _ Q0.out) Tryd.underlying30 rfl sizeZ) rfl ?_
      refine ⟨zeroV.toList, _, rfl, fun c _ => ?_, below_setRow H0.out (by omega) _⟩
      rw [HE2.out]
      exact zeroD_at _ _ _

set_option maxRecDepth 100000 in
set_option maxHeartbeats 3200000 in
theorem field_prog (n : Nat) (v : ValD) (key : ByteArray) (w : World) (B N : Nat) (cs : List Value) (hn : n ≤ 65536) (hf : fitsV (n + 1) v) (hN : N ≤ 4294967296) (hB : B ≤ w.heap.size) (hk7 : v.kind = 7) (hv : ValD.At w B N v cs) :
    Calls Tryd.prog 17 #[.agg cs.toArray, .string key] w (FldR B N (fieldV key v.fields) w) := by
  obtain ⟨ya, la, va, yc, lc, vc, hh⟩ := hv.has
  have hfl : v.fields.length ≤ N := hh.own.2.2.2.2.2.2.2.2.2.2
  have HH := Lib.hid hh
  have HF := Lib.hid hf
  have HK := Lib.hid hk7
  clear hv hh hf hk7
  have H0 := Lib.hid (show Below w.heap.size w ((w.alloc (.cells cs.toArray 30)).alloc (.cells zeroV 30)) from belowThen (belowBox w _) (belowBox _ _))
  have R0 := Lib.hid (show CellsAt ((w.alloc (.cells cs.toArray 30)).alloc (.cells zeroV 30)) w.heap.size 0 cs from (box_at w cs 30).then (belowBox _ _) (by rw [World.size_alloc]; omega))
  have Q0 := Lib.hid (show RowAt ((w.alloc (.cells cs.toArray 30)).alloc (.cells zeroV 30)) (w.heap.size + 1) zeroV.toList from new_row w _ zeroV.toList)
  have z12 := HH.out.fields
  go_enter Tryd.func17, Tryd.ntmps17
  go_wp2_with fail
  go_simp
  go_loopw [11] (fun i wr => ∃ (k : Nat), k ≤ v.fields.length ∧ i = .int .i64 k ∧ Hid (fieldV key v.fields = fieldV key (v.fields.drop k)) ∧ Hid (CellsAt wr w.heap.size 0 cs) ∧ Hid (RowAt wr (w.heap.size + 1) zeroV.toList) ∧ Hid (Below w.heap.size w wr) ∧ w.heap.size + 2 ≤ wr.heap.size)
    (fun i _ => v.fields.length - (intOf i).toNat)
  case atStart => exact ⟨0, by omega, rfl, Lib.hid rfl, R0, Q0, H0, by simp⟩
  case round =>
    clear R0 Q0 H0 z12
    obtain ⟨w1, rfl⟩ : ∃ w1, w1 = wr := ⟨wr, rfl⟩
    obtain ⟨k, hk, rfl, HE, R0, Q0, H0, hs⟩ := hrel
    have c0 := R0.out.get0 HH.out.kind
    rw [HK.out] at c0
    have c12 := R0.out.get0 HH.out.fields
    by_cases hlt : k < v.fields.length
    · obtain ⟨b1, o1, rfl, hb1, hget1⟩ := HH.out.atFields.get (by intro h; simp [h] at hlt)
      obtain ⟨cs1, _, h1, h2⟩ := hget1 k hlt
      obtain ⟨ky, hky⟩ : ∃ ky, ky = v.fields[k].1 := ⟨_, rfl⟩
      rw [← hky] at h1
      have HR := Lib.hid (h1.below (H0.out.mono hB) hb1).range
      have HV1 := Lib.hid h2
      have hlen := h2.len
      have hl1 := Lib.hid (show (Tryd.prog.info? 57).map (·.size) = some (Value.string ky :: cs1).length by rw [List.length_cons, h2.len]; exact sizeF)
      have hl2 := Lib.hid (show (Tryd.prog.info? 57).map (·.size) = some (Value.string ky :: cs1).toArray.size by rw [List.size_toArray, List.length_cons, h2.len]; exact sizeF)
      have hl3 := Lib.hid (show zeroF.size = (Value.string ky :: cs1).toArray.size by show 14 = _; rw [List.size_toArray, List.length_cons, h2.len])
      have hl4 := Lib.hid (show (Tryd.prog.info? 30).map (·.size) = some cs1.length by rw [h2.len]; exact sizeV)
      have hone := Lib.hid (show (Value.string ky :: cs1).toArray.all (·.oneCell') = true from Go.all_oneCell_toArray (fun u hu => by
        rcases List.mem_cons.1 hu with rfl | hu
        · rfl
        · exact h2.oneCell u hu))
      have HFC := Lib.hid (HF.out.2 v.fields[k] (List.getElem_mem hlt))
      have HX := Lib.hid (show Below w1.heap.size w1 (w1.alloc (.cells (.string ky :: cs1).toArray 57)) from belowBox w1 _)
      have RB := Lib.hid (box_at w1 (.string ky :: cs1) 57)
      have eb := RB.out.get0 (j := 0) (v := .string ky) rfl
      have ec : (w1.alloc (.cells (.string ky :: cs1).toArray 57)).cell? ⟨w.heap.size, 0, none⟩ = some (.int .i64 7) := by rw [World.cell?_alloc_lt _ _ _ (by show w.heap.size < _; omega)]; exact c0
      by_cases hq : ky.toList = key.toList
      · have q1 : (ky.toList == key.toList) = true := by simpa using hq
        have HE2 := Lib.hid (show fieldV key v.fields = v.fields[k].2 by rw [HE.out]; exact fieldV_hit hlt (by rw [← hky]; exact hq))
        clear hq hky h1 h2 hget1
        go_wp2_with (first
          | (refine wpList_load_mid rfl 57 _ rfl b1 (o1 + k * 14) rfl (.string ky :: cs1) _ HR.out Tryd.underlying57 rfl hl1.out ?_)
          | (refine wpList_store_new rfl 57 _ _ rfl zeroF (.string ky :: cs1).toArray rfl rfl hl2.out hl3.out hone.out ?_)
          | (refine wpList_load_mid rfl 30 _ rfl w1.heap.size 1 rfl cs1 _ RB.out.tail.range Tryd.underlying30 rfl hl4.out ?_))
        refine (copied_ex n v.fields[k].2 _ B N cs1 65536 (by omega) (by omega) HFC.out hN (Nat.le_trans hB (Nat.le_trans H0.out.size HX.out.size)) (HV1.out.below ((belowThen H0.out HX.out).mono hB))).mono ?_
        rintro e w2 ⟨cs2, rfl, hsafe, hb⟩
        have hs2 : w1.heap.size < w2.heap.size := by have := hb.size; rw [World.size_alloc] at this; omega
        have Q1 := Lib.hid (((Q0.out.below HX.out (by omega)).below hb (by rw [World.size_alloc]; omega)))
        have H1 := Lib.hid (belowThen (belowThen H0.out HX.out) hb)
        have A1 := Lib.hid hsafe.here
        have hlen2 := hsafe.here.len
        have S1 := Lib.hid (show Safe (w1.heap.size + 1) none (w2.setRow (w.heap.size + 1) cs2.toArray) (fun c => ValD.At c c.heap.size N v.fields[k].2 cs2) from by rw [← World.size_alloc w1 (.cells (.string ky :: cs1).toArray 57)]; exact Safe.next (no2 := none) hsafe (keep_setRow w2 (w.heap.size + 1) _ cs2.toArray (by rw [World.size_alloc]; omega)) (fun q _ h => by cases h))
        clear hsafe hb
        go_wp2_with (refine wpList_store_row rfl 30 _ _ rfl (w.heap.size + 1) cs2.toArray rfl rfl 30 zeroV Q1.out (row_size hlen2) (row_zero hlen2) (row_ones A1.out) ?_)
        refine bodyPost_ret (results_cell_row2 rfl _ _ (w.heap.size + 1) 30 _ (0, 0) _ rfl (setRow_heap _ _ _ _ _ _ Q1.out) Tryd.underlying30 rfl (row_size hlen2)) rfl ?_
        refine ⟨cs2, _, rfl, fun c hc => ?_, below_setRow H1.out (by omega) _⟩
        rw [HE2.out]
        exact S1.out c (hc.keep.wide (by omega))
      · have q1 : (ky.toList == key.toList) = false := by simpa using hq
        have HE2 := Lib.hid (show fieldV key v.fields = fieldV key (v.fields.drop (k + 1)) by rw [HE.out]; exact fieldV_miss hlt (by rw [← hky]; exact hq))
        clear hq hky h1 h2 hget1
        go_wp2_with (first
          | (refine wpList_load_mid rfl 57 _ rfl b1 (o1 + k * 14) rfl (.string ky :: cs1) _ HR.out Tryd.underlying57 rfl hl1.out ?_)
          | (refine wpList_store_new rfl 57 _ _ rfl zeroF (.string ky :: cs1).toArray rfl rfl hl2.out hl3.out hone.out ?_))
        go_roundw
        case rel => exact ⟨k + 1, by omega, by go_num, HE2, Lib.hid (R0.out.below HX.out (by omega)), Lib.hid (Q0.out.below HX.out (by omega)), Lib.hid (belowThen H0.out HX.out), by rw [World.size_alloc]; omega⟩
        case measure => simp [intOf]; omega
    · obtain rfl : k = v.fields.length := by omega
      have HE2 := Lib.hid (show fieldV key v.fields = zeroD by rw [HE.out]; exact fieldV_end)
      go_wp2_with (refine wpList_store_row rfl 30 _ _ rfl (w.heap.size + 1) zeroV rfl rfl 30 zeroV Q0.out sizeZ rfl oneZ ?_)
      refine bodyPost_ret (results_cell_row2 rfl _ _ (w.heap.size + 1) 30 _ (0, 0) _ rfl (setRow_heap _ _ _ _ _ _ Q0.out) Tryd.underlying30 rfl sizeZ) rfl ?_
      refine ⟨zeroV.toList, _, rfl, fun c _ => ?_, below_setRow H0.out (by omega) _⟩
      rw [HE2.out]
      exact zeroD_at _ _ _
end Go.Proofs.YtmbldgcbnkhabaaDoor
