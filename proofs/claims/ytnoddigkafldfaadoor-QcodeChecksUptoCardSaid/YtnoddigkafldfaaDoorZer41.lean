/- The zero value (qcode.zero, datakitref41.zero), the arity of the machine's builtins (qcode.arity, datakitref41.Builtin): what they give. -/
import Derived.Test.YtnoddigkafldfaaDoorUse41
import Derived.Test.YtnoddigkafldfaaDoorOwn7
import Derived.Deep.Light
namespace Go.Proofs.YtnoddigkafldfaaDoor
open Go.RowKit

theorem zeroB_iff (v : ValD) : zeroB v = true ↔ (v.kind = 0 ∧ v.bool = false ∧ decB v.num ⟨false, ⟨#[]⟩, 0⟩ = true ∧ timeB v.time ⟨0, 0, 0, 0⟩ = true ∧ v.text.toList = [] ∧ (v.bytes.length : Int) = 0 ∧ (v.list.length : Int) = 0 ∧ (v.fields.length : Int) = 0) := by
  unfold zeroB
  rw [decide_eq_true_eq, toList_nil_iff]
  simp only [Int.natCast_eq_zero]
set_option maxRecDepth 100000 in
set_option maxHeartbeats 3200000 in
theorem zero_prog (v : ValD) (w : World) (B N : Nat) (cs : List Value) (hv : ValD.At w B N v cs) : Calls Tryd.prog 13 #[.agg cs.toArray] w (BolR (zeroB v) w) := by
  obtain ⟨ya, la, va, yc, lc, vc, hh⟩ := hv.has
  clear hv
  have c0 := hh.kind
  have c1 := hh.bool
  have c2 := hh.neg
  have c3 := hh.digits
  have c4 := hh.exp
  have c5 := hh.tkind
  have c6 := hh.day
  have c7 := hh.nano
  have c8 := hh.offset
  have c9 := hh.text
  have c10 := hh.bytes
  have c11 := hh.list
  have c12 := hh.fields
  clear hh
  have E1 := eqDEC0 v.num
  have E2 := eqTIME0 v.time
  have G1 := guardDEC
  have G2 := guardTIME
  have HO := Lib.hid (zeroB_iff v)
  generalize zeroB v = ob at *
  generalize decB v.num ⟨false, ⟨#[]⟩, 0⟩ = db at *
  generalize timeB v.time ⟨0, 0, 0, 0⟩ = tb at *
  generalize v.bytes.length = n1 at *
  generalize v.list.length = n2 at *
  generalize v.fields.length = n3 at *
  go_enter Tryd.func13, Tryd.ntmps13
  go_wp2
  all_goals
    go_ret
    refine ⟨ret_bool (bool_of ?_), Below.box _ _⟩
    have hv := HO.out
    clear HO E1 E2 G1 G2 c0 c1 c2 c3 c4 c5 c6 c7 c8 c9 c10 c11 c12
    go_light
    grind
set_option maxRecDepth 100000 in
set_option maxHeartbeats 3200000 in
theorem zero_ref (v : ValD) (w : World) (B N : Nat) (cs : List Value) (hv : ValD.At w B N v cs) : Calls Tryd.prog 18 #[.agg cs.toArray] w (BolR (zeroB v) w) := by
  obtain ⟨ya, la, va, yc, lc, vc, hh⟩ := hv.has
  clear hv
  have c0 := hh.kind
  have c1 := hh.bool
  have c2 := hh.neg
  have c3 := hh.digits
  have c4 := hh.exp
  have c5 := hh.tkind
  have c6 := hh.day
  have c7 := hh.nano
  have c8 := hh.offset
  have c9 := hh.text
  have c10 := hh.bytes
  have c11 := hh.list
  have c12 := hh.fields
  clear hh
  have E1 := eqDEC0 v.num
  have E2 := eqTIME0 v.time
  have G1 := guardDEC
  have G2 := guardTIME
  have HO := Lib.hid (zeroB_iff v)
  generalize zeroB v = ob at *
  generalize decB v.num ⟨false, ⟨#[]⟩, 0⟩ = db at *
  generalize timeB v.time ⟨0, 0, 0, 0⟩ = tb at *
  generalize v.bytes.length = n1 at *
  generalize v.list.length = n2 at *
  generalize v.fields.length = n3 at *
  go_enter Tryd.func18, Tryd.ntmps18
  go_wp2
  all_goals
    go_ret
    refine ⟨ret_bool (bool_of ?_), Below.box _ _⟩
    have hv := HO.out
    clear HO E1 E2 G1 G2 c0 c1 c2 c3 c4 c5 c6 c7 c8 c9 c10 c11 c12
    go_light
    grind
def AriR (s : ByteArray) (w : World) (e : Ending) (w' : World) : Prop := e = .returned (.tuple #[.int .i64 (ariN s.toList), .bool (ariB s.toList)]) ∧ Below w.heap.size w w'
theorem ari_zero (s : ByteArray) (h : zeroL.contains s.toList = true) : ariN s.toList = 0 ∧ ariB s.toList = true := by
  unfold ariN ariB
  rw [if_pos h, h]
  exact ⟨rfl, rfl⟩
theorem ari_one (s : ByteArray) (h0 : zeroL.contains s.toList = false) (h : oneL.contains s.toList = true) : ariN s.toList = 1 ∧ ariB s.toList = true := by
  unfold ariN ariB
  rw [h0, h]
  exact ⟨rfl, rfl⟩
theorem ari_two (s : ByteArray) (h0 : zeroL.contains s.toList = false) (h1 : oneL.contains s.toList = false) (h : twoL.contains s.toList = true) : ariN s.toList = 2 ∧ ariB s.toList = true := by
  unfold ariN ariB
  rw [h0, h1, h]
  exact ⟨rfl, rfl⟩
theorem ari_else (s : ByteArray) (h0 : zeroL.contains s.toList = false) (h1 : oneL.contains s.toList = false) (h : twoL.contains s.toList = false) : ariN s.toList = arN s.toList ∧ ariB s.toList = arB s.toList := by
  unfold ariN ariB
  rw [h0, h1, h]
  exact ⟨rfl, rfl⟩
set_option maxHeartbeats 1600000 in
theorem arity_prog (s : ByteArray) (w : World) (h : TabAt w) : Calls Tryd.prog 26 #[.string s] w (AriR s w) := by
  have HT := Lib.hid h
  clear h
  cases h0 : zeroL.contains s.toList
  · cases h1 : oneL.contains s.toList
    · cases h2 : twoL.contains s.toList
      · have HA := Lib.hid (ari_else s h0 h1 h2)
        have p0 := not_mem_beq h0 [116, 114, 97, 99, 107] (by decide)
        have p1 := not_mem_beq h0 [112, 97, 116, 104] (by decide)
        have p2 := not_mem_beq h1 [103, 101, 116, 112, 97, 116, 104] (by decide)
        have p3 := not_mem_beq h1 [100, 101, 108, 112, 97, 116, 104, 115] (by decide)
        have p4 := not_mem_beq h2 [115, 101, 116, 112, 97, 116, 104] (by decide)
        clear h0 h1 h2
        go_enter Tryd.func26, Tryd.ntmps26
        go_wp2_with fail
        refine (arity_prog37 s _ HT.out).mono ?_
        rintro e w' ⟨rfl, hb⟩
        have HB := Lib.hid hb
        obtain ⟨n, hn⟩ : ∃ n, arN s.toList = n := ⟨_, rfl⟩
        obtain ⟨b, hb2⟩ : ∃ b, arB s.toList = b := ⟨_, rfl⟩
        rw [hn, hb2] at HA ⊢
        clear hb hn hb2
        go_wp2_with fail
        go_ret2
        refine ⟨?_, HB.out⟩
        rw [HA.out.1, HA.out.2]
        rfl
      · have HA := Lib.hid (ari_two s h0 h1 h2)
        have hm : s.toList ∈ twoL := by simpa using h2
        have he : s.toList = [115, 101, 116, 112, 97, 116, 104] := by simpa [twoL] using hm
        clear h0 h1 h2 hm
        go_enter Tryd.func26, Tryd.ntmps26
        go_wp2_with fail
        go_ret2
        refine ⟨?_, Below.refl _ _⟩
        rw [HA.out.1, HA.out.2]
        rfl
    · have HA := Lib.hid (ari_one s h0 h1)
      have hm : s.toList ∈ oneL := by simpa using h1
      have hm' : s.toList = [103, 101, 116, 112, 97, 116, 104] ∨ s.toList = [100, 101, 108, 112, 97, 116, 104, 115] := by simpa [oneL] using hm
      clear h0 h1 hm
      rcases hm' with he | he
      all_goals
        go_enter Tryd.func26, Tryd.ntmps26
        go_wp2_with fail
        go_ret2
        refine ⟨?_, Below.refl _ _⟩
        rw [HA.out.1, HA.out.2]
        rfl
  · have HA := Lib.hid (ari_zero s h0)
    have hm : s.toList ∈ zeroL := by simpa using h0
    have hm' : s.toList = [116, 114, 97, 99, 107] ∨ s.toList = [112, 97, 116, 104] := by simpa [zeroL] using hm
    clear h0 hm
    rcases hm' with he | he
    all_goals
      go_enter Tryd.func26, Tryd.ntmps26
      go_wp2_with fail
      go_ret2
      refine ⟨?_, Below.refl _ _⟩
      rw [HA.out.1, HA.out.2]
      rfl
set_option maxHeartbeats 1600000 in
theorem arity_ref (s : ByteArray) (w : World) (h : TabAt w) : Calls Tryd.prog 22 #[.string s] w (AriR s w) := by
  have HT := Lib.hid h
  clear h
  cases h0 : zeroL.contains s.toList
  · cases h1 : oneL.contains s.toList
    · cases h2 : twoL.contains s.toList
      · have HA := Lib.hid (ari_else s h0 h1 h2)
        have p0 := not_mem_beq h0 [116, 114, 97, 99, 107] (by decide)
        have p1 := not_mem_beq h0 [112, 97, 116, 104] (by decide)
        have p2 := not_mem_beq h1 [103, 101, 116, 112, 97, 116, 104] (by decide)
        have p3 := not_mem_beq h1 [100, 101, 108, 112, 97, 116, 104, 115] (by decide)
        have p4 := not_mem_beq h2 [115, 101, 116, 112, 97, 116, 104] (by decide)
        clear h0 h1 h2
        go_enter Tryd.func22, Tryd.ntmps22
        go_wp2_with fail
        refine (arity_ref37 s _ HT.out).mono ?_
        rintro e w' ⟨rfl, hb⟩
        have HB := Lib.hid hb
        obtain ⟨n, hn⟩ : ∃ n, arN s.toList = n := ⟨_, rfl⟩
        obtain ⟨b, hb2⟩ : ∃ b, arB s.toList = b := ⟨_, rfl⟩
        rw [hn, hb2] at HA ⊢
        clear hb hn hb2
        go_wp2_with fail
        go_ret2
        refine ⟨?_, HB.out⟩
        rw [HA.out.1, HA.out.2]
        rfl
      · have HA := Lib.hid (ari_two s h0 h1 h2)
        have hm : s.toList ∈ twoL := by simpa using h2
        have he : s.toList = [115, 101, 116, 112, 97, 116, 104] := by simpa [twoL] using hm
        clear h0 h1 h2 hm
        go_enter Tryd.func22, Tryd.ntmps22
        go_wp2_with fail
        go_ret2
        refine ⟨?_, Below.refl _ _⟩
        rw [HA.out.1, HA.out.2]
        rfl
    · have HA := Lib.hid (ari_one s h0 h1)
      have hm : s.toList ∈ oneL := by simpa using h1
      have hm' : s.toList = [103, 101, 116, 112, 97, 116, 104] ∨ s.toList = [100, 101, 108, 112, 97, 116, 104, 115] := by simpa [oneL] using hm
      clear h0 h1 hm
      rcases hm' with he | he
      all_goals
        go_enter Tryd.func22, Tryd.ntmps22
        go_wp2_with fail
        go_ret2
        refine ⟨?_, Below.refl _ _⟩
        rw [HA.out.1, HA.out.2]
        rfl
  · have HA := Lib.hid (ari_zero s h0)
    have hm : s.toList ∈ zeroL := by simpa using h0
    have hm' : s.toList = [116, 114, 97, 99, 107] ∨ s.toList = [112, 97, 116, 104] := by simpa [zeroL] using hm
    clear h0 hm
    rcases hm' with he | he
    all_goals
      go_enter Tryd.func22, Tryd.ntmps22
      go_wp2_with fail
      go_ret2
      refine ⟨?_, Below.refl _ _⟩
      rw [HA.out.1, HA.out.2]
      rfl
end Go.Proofs.YtnoddigkafldfaaDoor
