/- The reference's validity of values: what it means that it finds nothing wrong: the number is valid, and only lists have elements. -/
import Derived.Test.YtmbldgcbnkhabaaDoorVal07e
import Derived.Test.YtmbldgcbnkhabaaDoorDec02b
namespace Go.Proofs.YtmbldgcbnkhabaaDoor
open Go.RowKit

def OwnR (v : ValD) (w : World) (e : Ending) (w' : World) : Prop := ∃ b, e = .returned (.bool b) ∧ (b = true → v.kind ≠ 6 → v.list = []) ∧ Below w.heap.size w w'
def OneR (v : ValD) (w : World) (e : Ending) (w' : World) : Prop := ∃ k : Int, e = .returned (.int .i64 k) ∧ (k = 0 → VDec v.num ∧ (v.kind ≠ 6 → v.list = [])) ∧ Below w.heap.size w w'
def LookR (v : ValD) (w : World) (e : Ending) (w' : World) : Prop := ∃ (x y : Int), e = .returned (.tuple #[.int .i64 x, .int .i64 y]) ∧ (y = 0 → VDec v.num ∧ (v.kind ≠ 6 → v.list = [])) ∧ Below w.heap.size w w'
def ChkR (v : ValD) (w : World) (e : Ending) (w' : World) : Prop := ∃ k : Int, e = .returned (.int .i64 k) ∧ (k = 0 → VDec v.num ∧ (v.kind ≠ 6 → v.list = [])) ∧ Below w.heap.size w w'
set_option maxRecDepth 100000 in
set_option maxHeartbeats 3200000 in
theorem own_ex (v : ValD) (w : World) (B N : Nat) (cs : List Value) (hv : ValD.At w B N v cs) : Calls Tryd.prog 59 #[.agg cs.toArray] w (OwnR v w) := by
  by_cases hz : v.kind ≠ 6 → v.list = []
  · have HZ := Lib.hid hz
    clear hz
    refine (own_any v w B N cs hv).mono ?_
    rintro e w' ⟨b, rfl, hb⟩
    exact ⟨b, rfl, fun _ => HZ.out, hb⟩
  · have hk : ¬ v.kind = 6 := fun h => hz (fun g => absurd h g)
    have hl : 0 < v.list.length := by
      rcases Nat.eq_zero_or_pos v.list.length with h | h
      · exact absurd (fun _ => List.length_eq_zero_iff.1 h) hz
      · exact h
    have hk6 : (v.kind == 6) = false := by simp [hk]
    have hl0 : ((v.list.length : Int) == 0) = false := by simp; intro e; rw [e] at hl; simp at hl
    clear hz
    obtain ⟨ya, la, va, yc, lc, vc, hh⟩ := hv.has
    clear hv
    have c0 := hh.kind
    have c1 := hh.bool
    have c2 := hh.neg
    have c3 := hh.digits
    have c4 := hh.exp
    have c5 := hh.tkind
    have c6 := hh.day
    have c7 := hh.nano
    have c8 := hh.offset
    have c9 := hh.text
    have c10 := hh.bytes
    have c11 := hh.list
    have c12 := hh.fields
    clear hh
    have E1 := eqDEC0 v.num
    have E2 := eqTIME0 v.time
    have G1 := guardDEC
    have G2 := guardTIME
    generalize hn : v.list.length = n at *
    clear hn
    go_enter Tryd.func59, Tryd.ntmps59
    go_wp2
    all_goals first
      | (go_ret; exact ⟨false, rfl, fun h => (by cases h), Below.box _ _⟩)
      | (exfalso; omega)
      | (exfalso; simp_all; done)
      | (exfalso; simp_all; omega)

set_option maxRecDepth 100000 in
set_option maxHeartbeats 3200000 in
theorem one_ex (v : ValD) (w : World) (B N : Nat) (cs : List Value) (hN : N ≤ 4294967296) (hB : B ≤ w.heap.size) (hv : ValD.At w B N v cs) : Calls Tryd.prog 47 #[.agg cs.toArray] w (OneR v w) := by
  obtain ⟨ya, la, va, yc, lc, vc, hh⟩ := hv.has
  have HV := Lib.hid hv
  have hds : v.num.digits.size ≤ N := hh.own.2.2.2.2.2.2.1
  have hts : v.text.size ≤ N := hh.own.2.2.2.2.2.2.2.1
  have hfs : v.fields.length ≤ N := hh.own.2.2.2.2.2.2.2.2.2.2
  have HH := Lib.hid hh
  have hl := Lib.hid (show (Tryd.prog.info? 30).map (·.size) = some cs.length by rw [hv.len]; exact sizeV)
  have HR := Lib.hid (box_at w cs 30)
  have H0 := Lib.hid (show Below w.heap.size w (w.alloc (.cells cs.toArray 30)) from belowBox w _)
  clear hh hv
  go_enter Tryd.func47, Tryd.ntmps47
  go_wp2_with (refine wpList_load_mid rfl 30 _ rfl w.heap.size 0 rfl cs _ (box_at w cs 30).range Tryd.underlying30 rfl hl.out ?_)
  refine (own_ex v _ B N cs (HV.out.below (H0.out.mono hB))).mono ?_
  rintro e w1 ⟨b1, rfl, ho1, hb1⟩
  have hs0 : w.heap.size < (w.alloc (.cells cs.toArray 30)).heap.size := by rw [World.size_alloc]; omega
  have R1 := Lib.hid (HR.out.then hb1 hs0)
  have H1 := Lib.hid (belowThen H0.out hb1)
  have hs1 : w.heap.size < w1.heap.size := Nat.lt_of_lt_of_le hs0 hb1.size
  clear hb1 HR H0 hs0
  cases b1
  · clear ho1
    go_wp2_with fail
    go_ret
    exact ⟨_, rfl, fun h => absurd h (by decide), H1.out⟩
  have HO1 := Lib.hid (ho1 rfl)
  clear ho1
  have d2 := R1.out.get0 HH.out.neg
  have d3 := R1.out.get0 HH.out.digits
  have d4 := R1.out.get0 HH.out.exp
  go_wp2_with fail
  refine (valid02_ex v.num _ (by unfold maxLen; omega)).mono ?_
  rintro e w2 ⟨b2, rfl, hd2, hb2⟩
  have R2 := Lib.hid (R1.out.then hb2 hs1)
  have H2 := Lib.hid (belowThen H1.out hb2)
  have hs2 : w.heap.size < w2.heap.size := Nat.lt_of_lt_of_le hs1 hb2.size
  clear hb2 R1 H1 hs1 d2 d3 d4
  cases b2
  · clear hd2
    go_wp2_with fail
    go_ret
    exact ⟨_, rfl, fun h => absurd h (by decide), H2.out⟩
  have HQ := Lib.hid (show VDec v.num ∧ (v.kind ≠ 6 → v.list = []) from ⟨hd2 rfl, HO1.out⟩)
  clear hd2
  have d0 := R2.out.get0 HH.out.kind
  have d5 := R2.out.get0 HH.out.tkind
  have d6 := R2.out.get0 HH.out.day
  have d7 := R2.out.get0 HH.out.nano
  have d8 := R2.out.get0 HH.out.offset
  have d9 := R2.out.get0 HH.out.text
  have d10 := R2.out.get0 HH.out.bytes
  have d12 := R2.out.get0 HH.out.fields
  -- what stands behind the test of the time
  have rest : ∀ w3 : World, Below w2.heap.size w2 w3 → w.heap.size < w3.heap.size ∧ Below w.heap.size w w3 ∧ w3.cell? ⟨w.heap.size, 9, none⟩ = some (.string v.text) ∧ w3.cell? ⟨w.heap.size, 10, none⟩ = some (.slice ya v.bytes.length yc) ∧ w3.cell? ⟨w.heap.size, 12, none⟩ = some (.slice va v.fields.length vc) := fun w3 hb3 =>
    ⟨Nat.lt_of_lt_of_le hs2 hb3.size, belowThen H2.out hb3, (hb3.cell (p := ⟨w.heap.size, 9, none⟩) hs2).trans d9, (hb3.cell (p := ⟨w.heap.size, 10, none⟩) hs2).trans d10, (hb3.cell (p := ⟨w.heap.size, 12, none⟩) hs2).trans d12⟩
  have REST := Lib.hid rest
  clear rest d9 d10 d12
  by_cases hk : v.kind = 3
  · rw [hk] at d0
    go_wp2_with fail
    refine (valid05_any v.time _).mono ?_
    rintro e w3 ⟨b3, rfl, hb3⟩
    obtain ⟨hs3, h3, d9, d10, d12⟩ := REST.out _ hb3
    have H3 := Lib.hid h3
    clear hb3 h3 d0 d5 d6 d7 d8 R2 H2 hs2
    cases b3
    · go_wp2_with fail
      go_ret
      exact ⟨_, rfl, fun _ => HQ.out, H3.out⟩
    go_wp2_with fail
    refine (valid_any v.text _ (by omega)).mono ?_
    rintro e w4 ⟨b4, rfl, hb4⟩
    have H4 := Lib.hid (belowThen H3.out hb4)
    have d9' := (hb4.cell (p := ⟨w.heap.size, 9, none⟩) hs3).trans d9
    have d10' := (hb4.cell (p := ⟨w.heap.size, 10, none⟩) hs3).trans d10
    have d12' := (hb4.cell (p := ⟨w.heap.size, 12, none⟩) hs3).trans d12
    clear hb4 d9 d10 d12
    cases b4
    · go_wp2_with fail
      go_ret
      exact ⟨_, rfl, fun _ => HQ.out, H4.out⟩
    go_wp2_with fail
    all_goals first
      | (go_ret; exact ⟨_, rfl, fun _ => HQ.out, H4.out⟩)
      | (refine (keys_any v.fields va vc _ B N hN hfs (Nat.le_trans hB H4.out.size) (HH.out.atFields.below (H4.out.mono hB))).mono ?_
         rintro e w5 ⟨k5, rfl, hb5⟩
         have H5 := Lib.hid (belowThen H4.out hb5)
         clear hb5
         go_wp2_with fail
         go_ret
         exact ⟨_, rfl, fun _ => HQ.out, H5.out⟩)
  · have hk' : (v.kind == 3) = false := by simpa using hk
    clear hk
    obtain ⟨hs3, h3, d9, d10, d12⟩ := REST.out _ (Below.refl _ _)
    have H3 := Lib.hid h3
    clear h3 d5 d6 d7 d8 R2 H2 hs2
    go_wp2_with fail
    refine (valid_any v.text _ (by omega)).mono ?_
    rintro e w4 ⟨b4, rfl, hb4⟩
    have H4 := Lib.hid (belowThen H3.out hb4)
    have d9' := (hb4.cell (p := ⟨w.heap.size, 9, none⟩) hs3).trans d9
    have d10' := (hb4.cell (p := ⟨w.heap.size, 10, none⟩) hs3).trans d10
    have d12' := (hb4.cell (p := ⟨w.heap.size, 12, none⟩) hs3).trans d12
    clear hb4 d0 d9 d10 d12
    cases b4
    · go_wp2_with fail
      go_ret
      exact ⟨_, rfl, fun _ => HQ.out, H4.out⟩
    go_wp2_with fail
    all_goals first
      | (go_ret; exact ⟨_, rfl, fun _ => HQ.out, H4.out⟩)
      | (refine (keys_any v.fields va vc _ B N hN hfs (Nat.le_trans hB H4.out.size) (HH.out.atFields.below (H4.out.mono hB))).mono ?_
         rintro e w5 ⟨k5, rfl, hb5⟩
         have H5 := Lib.hid (belowThen H4.out hb5)
         clear hb5
         go_wp2_with fail
         go_ret
         exact ⟨_, rfl, fun _ => HQ.out, H5.out⟩)
set_option maxRecDepth 100000 in
set_option maxHeartbeats 1600000 in
theorem look_ex (m : Nat) : ∀ (v : ValD) (w : World) (B N : Nat) (cs : List Value) (depth : Nat) (seen : Int), depth + m = 49 → N ≤ 4294967296 → B ≤ w.heap.size → ValD.At w B N v cs →
    Calls Tryd.prog 37 #[.agg cs.toArray, .int .i64 depth, .int .i64 seen] w (LookR v w) := by
  induction m with
  | zero =>
    intro v w B N cs depth seen hd hN hB hv
    clear hv
    go_enter Tryd.func37, Tryd.ntmps37
    go_wp2_with fail
    go_ret2
    exact ⟨_, _, rfl, fun h => absurd h (by decide), belowBox w _⟩
  | succ m ih =>
    intro v w B N cs depth seen hd hN hB hv
    have IH := Lib.hid ih
    have hd' : depth ≤ 48 := by omega
    have HD := Lib.hid hd
    have HV := Lib.hid hv
    have hl := Lib.hid (show (Tryd.prog.info? 30).map (·.size) = some cs.length by rw [hv.len]; exact sizeV)
    have H0 := Lib.hid (show Below w.heap.size w (w.alloc (.cells cs.toArray 30)) from belowBox w _)
    clear ih hv hd
    by_cases hs : 65536 ≤ seen
    · go_enter Tryd.func37, Tryd.ntmps37
      go_wp2_with fail
      go_ret2
      exact ⟨_, _, rfl, fun h => absurd h (by decide), H0.out⟩
    go_enter Tryd.func37, Tryd.ntmps37
    go_wp2_with (refine wpList_load_mid rfl 30 _ rfl w.heap.size 0 rfl cs _ (box_at w cs 30).range Tryd.underlying30 rfl hl.out ?_)
    refine (one_ex v _ B N cs hN (Nat.le_trans hB H0.out.size) (HV.out.below (H0.out.mono hB))).mono ?_
    rintro e w1 ⟨k1, rfl, hq1, hb1⟩
    have hs0 : w.heap.size < (w.alloc (.cells cs.toArray 30)).heap.size := by rw [World.size_alloc]; omega
    have R1 := Lib.hid ((box_at w cs 30).then hb1 hs0)
    have H1 := Lib.hid (belowThen H0.out hb1)
    have hs1 : w.heap.size < w1.heap.size := Nat.lt_of_lt_of_le hs0 hb1.size
    clear hb1 H0 hs0
    by_cases hk1 : k1 = 0
    · have HQ := Lib.hid (hq1 hk1)
      clear hq1
      subst hk1
      go_wp2_with (refine wpList_load_mid rfl 30 _ rfl w.heap.size 0 rfl cs _ R1.out.range Tryd.underlying30 rfl hl.out ?_)
      refine (kids_any v _ B N cs hN (Nat.le_trans hB H1.out.size) (HV.out.below (H1.out.mono hB))).mono ?_
      rintro e w2 ⟨a, c, rfl, hvs, hb2⟩
      have H2 := Lib.hid (belowThen H1.out hb2)
      have HS := Lib.hid hvs
      have hkl := kids_len HV.out
      clear hb2 hvs R1 H1 hs1
      go_wp2_with fail
      go_simp
      go_loopw [2, 10, 11] (fun s i _ wr => ∃ (x : Int) (k : Nat), k ≤ (kidsD v).length ∧ s = .int .i64 x ∧ i = .int .i64 k ∧ Below w2.heap.size w2 wr) (fun _ i _ _ => (kidsD v).length - (intOf i).toNat)
      case atStart => exact ⟨_, 0, by omega, rfl, rfl, Below.refl _ _⟩
      case round =>
        obtain ⟨x, k, hk, rfl, rfl, hbel⟩ := hrel
        have HB := Lib.hid hbel
        clear hbel
        by_cases hlt : k < (kidsD v).length
        · obtain ⟨b, o, rfl, hb, hget⟩ := HS.out.get (by intro h; simp [h] at hlt)
          obtain ⟨cs1, h1, h2⟩ := hget k hlt
          have HR := Lib.hid (h1.below HB.out hb).range
          have H4 := Lib.hid (h2.below HB.out)
          have hl1 := Lib.hid (show (Tryd.prog.info? 30).map (·.size) = some cs1.length by rw [h2.len]; exact sizeV)
          clear h1 h2 hget
          go_wp2_with (refine wpList_load_mid rfl 30 _ rfl b (o + k * 13) rfl cs1 _ HR.out Tryd.underlying30 rfl hl1.out ?_)
          refine (IH.out _ _ w2.heap.size N _ (depth + 1) x (by have := HD.out; omega) hN HB.out.size H4.out).mono ?_
          rintro e1 w3 ⟨y, z, rfl, _, hb3⟩
          have HB3 := Lib.hid (belowThen HB.out hb3)
          clear hb3
          by_cases hz : z = 0
          · subst hz
            go_wp2_with fail
            go_roundw
            case rel => exact ⟨y, k + 1, by omega, rfl, by go_num, HB3.out⟩
            case measure => simp [intOf]; omega
          · have hz' : (z == 0) = false := by simpa using hz
            clear hz
            go_wp2_with fail
            go_ret2
            exact ⟨_, _, rfl, fun _ => HQ.out, belowThen H2.out HB3.out⟩
        · go_wp2_with fail
          go_ret2
          exact ⟨_, _, rfl, fun _ => HQ.out, belowThen H2.out HB.out⟩
    · have hk1' : (k1 == 0) = false := by simpa using hk1
      have HK1 := Lib.hid hk1
      clear hk1 hq1
      go_wp2_with fail
      go_ret2
      exact ⟨_, _, rfl, fun h => absurd h HK1.out, H1.out⟩

theorem check07_ex (v : ValD) (w : World) (B N : Nat) (cs : List Value) (hN : N ≤ 4294967296) (hB : B ≤ w.heap.size) (hv : ValD.At w B N v cs) :
    Calls Tryd.prog 15 #[.agg cs.toArray] w (ChkR v w) := by
  have HV := Lib.hid hv
  have hl := Lib.hid (show (Tryd.prog.info? 30).map (·.size) = some cs.length by rw [hv.len]; exact sizeV)
  have H0 := Lib.hid (show Below w.heap.size w (w.alloc (.cells cs.toArray 30)) from belowBox w _)
  clear hv
  go_enter Tryd.func15, Tryd.ntmps15
  go_wp2_with (refine wpList_load_mid rfl 30 _ rfl w.heap.size 0 rfl cs _ (box_at w cs 30).range Tryd.underlying30 rfl hl.out ?_)
  refine (look_ex 48 v _ B N cs 1 0 (by omega) hN (Nat.le_trans hB H0.out.size) (HV.out.below (H0.out.mono hB))).mono ?_
  rintro e w1 ⟨x, y, rfl, hq, hb1⟩
  have H1 := Lib.hid (belowThen H0.out hb1)
  have HQ := Lib.hid hq
  clear hb1 hq
  go_wp2_with fail
  go_ret
  exact ⟨_, rfl, HQ.out, H1.out⟩
end Go.Proofs.YtmbldgcbnkhabaaDoor
