/- One step of 'look' (datakitref36), given it and 'funcs' one level deeper. -/
import Derived.Test.YtbpdbmjfnbpihaaLook36
namespace Go.Proofs.Ytbpdbmjfnbpihaa
open Go.RowKit

/-- What is known of 'funcs' from a depth on. -/
def FuncsAtD (m : Nat) : Prop := ∀ (l : List FuncD) (a : Option Addr) (c : Nat) (w : World) (B N : Nat) (depth : Nat) (seen : Int), depth + m = 49 → N ≤ 4294967296 → B ≤ w.heap.size → l.length ≤ N → FuncsAt w B N l a →
    Calls Try.prog 21 #[.slice a l.length c, .int .i64 depth, .int .i64 seen, .bool false] w (SomePair w)

set_option maxRecDepth 100000 in
set_option maxHeartbeats 6400000 in
theorem look_succ (m : Nat) (hk : LookAt m) (hf : FuncsAtD m) : LookAt (m + 1) := by
  intro x w B N cs depth seen hd hN hB hx
  have HK := Lib.hid hk
  have HF := Lib.hid hf
  have HD := Lib.hid hd
  have HX := Lib.hid hx
  have hd' : depth ≤ 48 := by omega
  have hl := Lib.hid (show (Try.prog.info? 38).map (·.size) = some cs.length by rw [hx.len]; exact sizeE)
  have H0 := Lib.hid (show Below w.heap.size w (w.alloc (.cells cs.toArray 38)) from belowBox w _)
  have HB0 := Lib.hid (box_at w cs 38)
  have hs0 := Lib.hid (show w.heap.size < (w.alloc (.cells cs.toArray 38)).heap.size by rw [World.size_alloc]; omega)
  obtain ⟨aa, fa, ac, fc, vs, hh⟩ := hx.has
  have c0 := hh.op
  have c15 := hh.args
  have c16 := hh.funcs
  have hal : x.args.length ≤ N := hh.own.2.2.1
  have hfl : x.funcs.length ≤ N := hh.own.2.2.2
  have hlv := Lib.hid (show (Try.prog.info? 34).map (·.size) = some vs.length by rw [hh.atVal.len]; exact sizeV)
  have HA := Lib.hid hh.atArgs
  have HU := Lib.hid hh.atFuncs
  have HV := Lib.hid hh.atVal
  have V0 := Lib.hid (show CellsAt (w.alloc (.cells cs.toArray 38)) w.heap.size (0 + 2) vs from hh.valRange (box_at w cs 38))
  clear hh hx hk hf hd
  by_cases hs : 4096 ≤ seen
  · go_enter Try.func14, Try.ntmps14
    go_wp2_with fail
    go_ret2
    exact ⟨_, _, rfl, fun h => absurd h (by decide), H0.out⟩
  have hc : x.op = 3 ∨ x.op = 23 ∨ ((x.op == 3) = false ∧ (x.op == 23) = false) := by
    by_cases h3 : x.op = 3
    · exact .inl h3
    · by_cases h4 : x.op = 23
      · exact .inr (.inl h4)
      · exact .inr (.inr ⟨by simpa using h3, by simpa using h4⟩)
  rcases hc with h3 | h23 | ⟨e3, e23⟩
  case' inl => rw [h3] at c0
  case' inr.inl => rw [h23] at c0
  all_goals
    go_enter Try.func14, Try.ntmps14
    go_wp2_with (refine wpList_load_mid rfl 38 _ rfl w.heap.size 0 rfl cs _ HB0.out.range Try.underlying38 rfl hl.out ?_)
    refine (form_any x _ B N cs hN (Nat.le_trans hB H0.out.size) (HX.out.below (H0.out.mono hB))).mono ?_
    rintro e w1 ⟨b1, rfl, ho, hb1⟩
    have R1 := Lib.hid (HB0.out.then hb1 hs0.out)
    have V1 := Lib.hid (V0.out.then hb1 hs0.out).range
    have H1 := Lib.hid (belowThen H0.out hb1)
    have hs1 := Lib.hid (Nat.lt_of_lt_of_le hs0.out hb1.size)
    cases b1
    case false =>
      clear ho hb1
      go_wp2_with fail
      go_ret2
      exact ⟨_, _, rfl, fun h => absurd h (by decide), H1.out⟩
    have HFo := Lib.hid (ho rfl)
    clear ho hb1 HB0 V0 H0 hs0
    have d0 := R1.out.get0 c0
    go_wp2_with (first
      | (refine wpList_load_mid rfl 38 _ rfl w.heap.size 0 rfl cs _ R1.out.range Try.underlying38 rfl hl.out ?_)
      | (refine wpList_load_mid rfl 34 _ rfl w.heap.size (0 + 2) rfl vs _ V1.out Try.underlying34 rfl hlv.out ?_))
    first
      | (refine (check07_any x.val _ B N vs hN (Nat.le_trans hB H1.out.size) (HV.out.below (H1.out.mono hB))).mono ?_
         rintro e w2 ⟨k2, rfl, hb2⟩
         have R2 := Lib.hid (R1.out.then hb2 hs1.out)
         have H2 := Lib.hid (belowThen H1.out hb2)
         have hs2 := Lib.hid (Nat.lt_of_lt_of_le hs1.out hb2.size)
         clear d0 hb2
         by_cases hk0 : k2 = 0
         case' neg =>
           have hk1 : (k2 != 0) = true := by simpa using hk0
           have hk2 : (k2 == 0) = false := by simpa using hk0
           go_wp2_with fail
           go_ret2
           exact ⟨_, _, rfl, fun h => absurd h hk0, H2.out⟩
         case' pos =>
           subst hk0
           have d0 := R2.out.get0 c0
           go_wp2_with (refine wpList_load_mid rfl 38 _ rfl w.heap.size 0 rfl cs _ R2.out.range Try.underlying38 rfl hl.out ?_))
      | (obtain ⟨w2, rfl⟩ : ∃ w2, w2 = w1 := ⟨w1, rfl⟩
         have R2 := R1
         have H2 := H1
         have hs2 := hs1
         clear R1 H1 hs1)
    refine (right_any x _ B N cs (Nat.le_trans hN (by omega)) (HX.out.below (H2.out.mono hB))).mono ?_
    rintro e w3 ⟨b3, rfl, hb3⟩
    have R3 := Lib.hid (R2.out.then hb3 hs2.out)
    have H3 := Lib.hid (belowThen H2.out hb3)
    have hs3 := Lib.hid (Nat.lt_of_lt_of_le hs2.out hb3.size)
    clear d0 hb3 R2 H2 hs2
    cases b3
    case false =>
      go_wp2_with fail
      go_ret2
      exact ⟨_, _, rfl, fun h => absurd h (by decide), H3.out⟩
    have d0 := R3.out.get0 c0
    have d15 := R3.out.get0 c15
    have d16 := R3.out.get0 c16
    go_wp2_with fail
    first
      | (refine (HF.out x.funcs fa fc _ B N (depth + 1) _ (by have := HD.out; omega) hN (Nat.le_trans hB H3.out.size) hfl (FuncsAt.below (H3.out.mono hB) _ HU.out)).mono ?_
         rintro e w4 ⟨n4, f4, rfl, hb4⟩
         have R4 := Lib.hid (R3.out.then hb4 hs3.out)
         have H4 := Lib.hid (belowThen H3.out hb4)
         have hs4 := Lib.hid (Nat.lt_of_lt_of_le hs3.out hb4.size)
         clear d0 d15 d16 hb4 R3 H3 hs3
         by_cases hf4 : f4 = 0
         case' neg =>
           have hk1 : (f4 != 0) = true := by simpa using hf4
           have hk2 : (f4 == 0) = false := by simpa using hf4
           go_wp2_with fail
           go_ret2
           exact ⟨_, _, rfl, fun h => absurd h hf4, H4.out⟩
         case' pos =>
           subst hf4
           go_wp2_with fail)
      | (obtain ⟨w4, rfl⟩ : ∃ w4, w4 = w3 := ⟨w3, rfl⟩
         have R4 := R3
         have H4 := H3
         have hs4 := hs3
         clear R3 H3 hs3 d0 d15 d16)
    go_simp
    go_loopw [2, 11] (fun s i wr => ∃ (y : Int) (k : Nat), k ≤ x.args.length ∧ (∀ j (hj : j < x.args.length), j < k → x.args[j].op = 30 ∨ okE x.args[j]) ∧ s = .int .i64 y ∧ i = .int .i64 k ∧ Below w4.heap.size w4 wr) (fun _ i _ => x.args.length - (intOf i).toNat)
    case atStart => exact ⟨_, 0, by omega, fun _ _ h => absurd h (by omega), rfl, rfl, Below.refl _ _⟩
    case round =>
      obtain ⟨y, k, hk, hi, rfl, rfl, hbel⟩ := hrel
      have HI := Lib.hid hi
      have HB := Lib.hid hbel
      have R5 := Lib.hid (R4.out.below hbel hs4.out)
      clear hi hbel
      have d15 := R5.out.get0 c15
      by_cases hlt : k < x.args.length
      · obtain ⟨b, p, rfl, hb, hget⟩ := HA.out.get (by intro h; simp [h] at hlt)
        obtain ⟨es, g1, g2⟩ := hget k hlt
        have hBw4 := Nat.le_trans hB H4.out.size
        have HR := Lib.hid ((g1.below H4.out (Nat.lt_of_lt_of_le hb hB)).below HB.out (Nat.lt_of_lt_of_le hb hBw4)).range
        have HE := Lib.hid ((g2.below (H4.out.mono hB)).below (HB.out.mono hBw4))
        have hle := Lib.hid (show (Try.prog.info? 38).map (·.size) = some es.length by rw [g2.len]; exact sizeE)
        clear g1 g2 hget
        go_wp2_with (refine wpList_load_mid rfl 38 _ rfl b (p + k * 17) rfl es _ HR.out Try.underlying38 rfl hle.out ?_)
        refine (kid_of m HK.out x.args[k] _ B N es (depth + 1) y (by have := HD.out; omega) hN (Nat.le_trans hBw4 HB.out.size) HE.out).mono ?_
        rintro e1 w6 ⟨y6, z6, rfl, ho6, hb6⟩
        have HO := Lib.hid ho6
        have HB6 := Lib.hid (belowThen HB.out hb6)
        clear ho6 hb6
        by_cases hz : z6 = 0
        · subst hz
          go_wp2_with fail
          go_roundw
          case rel =>
            refine ⟨y6, k + 1, by omega, fun j hj hjk => ?_, rfl, by go_num, HB6.out⟩
            by_cases hje : j = k
            · subst hje; first | exact HO.out rfl | exact HO.out trivial
            · exact HI.out j hj (by omega)
          case measure => simp [intOf]; omega
        · have hz1 : (z6 != 0) = true := by simpa using hz
          have hz2 : (z6 == 0) = false := by simpa using hz
          go_wp2_with fail
          go_ret2
          exact ⟨_, _, rfl, fun h => absurd h hz, belowThen H4.out HB6.out⟩
      · go_wp2_with fail
        go_ret2
        exact ⟨_, _, rfl, fun _ => okE_iff.2 ⟨HFo.out, okL_of _ fun j hj => HI.out j hj (by omega)⟩, belowThen H4.out HB.out⟩
end Go.Proofs.Ytbpdbmjfnbpihaa
