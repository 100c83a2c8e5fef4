/- What follows a backslash and u: what unicode of layer 35 computes. -/
import Derived.Test.YtbpdbmjfnbpihaaDoorL4
namespace Go.Proofs.YtbpdbmjfnbpihaaDoor
open Go.RowKit

/-- The second half of a pair of surrogates, behind the first one, of value n. -/
def uniT (s : ByteArray) (i : Nat) (n : Int) : Int × Int × Int :=
  if ¬ i + 4 < s.size then (0, 0, 4) else if byteI s (i + 4) ≠ 92 then (0, 0, 5) else if ¬ i + 5 < s.size then (0, 0, 4) else if byteI s (i + 5) ≠ 117 then (0, 0, 5)
  else if (Hex4 s (i + 6)).2 ≠ 0 then (0, 0, (Hex4 s (i + 6)).2) else if (Hex4 s (i + 6)).1 < 56320 ∨ 57343 < (Hex4 s (i + 6)).1 then (0, 0, 5)
  else (65536 + (n - 55296) * 1024 + (Hex4 s (i + 6)).1 - 56320, (i : Int) + 10, 0)
def uniF (s : ByteArray) (i : Nat) : Int × Int × Int :=
  if (Hex4 s i).2 ≠ 0 then (0, 0, (Hex4 s i).2) else if 56320 ≤ (Hex4 s i).1 ∧ (Hex4 s i).1 ≤ 57343 then (0, 0, 5)
  else if (Hex4 s i).1 < 55296 ∨ 57343 < (Hex4 s i).1 then ((Hex4 s i).1, (i : Int) + 4, 0) else uniT s i (Hex4 s i).1

theorem hex50j (s : ByteArray) (j : Int) (i : Nat) (w : World) (hj : j = i) (hs : s.size ≤ 1099511627776) (hi : i ≤ s.size) :
    Calls Tryd.prog 50 #[.string s, .int .i64 j] w fun e w' => e = .returned (.tuple #[.int .i64 (Hex4 s i).1, .int .i64 (Hex4 s i).2]) ∧ 0 ≤ (Hex4 s i).1 ∧ (Hex4 s i).1 ≤ 65535 ∧ w = w' := by
  subst hj; exact hex50 s i w hs hi

theorem belowBox (w : World) (o : Obj) : Below w.heap.size w (w.alloc o) := (Below.refl _ _).alloc (Nat.le_refl _) _
theorem belowThen {a b c : World} (h : Below a.heap.size a b) (k : Below b.heap.size b c) : Below a.heap.size a c := h.trans (k.mono h.size)
def UniR (s : ByteArray) (i : Nat) (w : World) (e : Ending) (w' : World) : Prop :=
  e = .returned (.tuple #[.int .i32 (uniF s i).1, .int .i64 (uniF s i).2.1, .int .i64 (uniF s i).2.2]) ∧ Below w.heap.size w w'

set_option maxRecDepth 8000 in
set_option maxHeartbeats 3200000 in
theorem unicode41 (s : ByteArray) (i : Nat) (w : World) (hs : s.size ≤ 1099511627776) (hi : i ≤ s.size) :
    Calls Tryd.prog 41 #[.string s, .int .i64 i] w (UniR s i w) := by
  have HU := Lib.hid (show uniF s i = if (Hex4 s i).2 ≠ 0 then (0, 0, (Hex4 s i).2) else if 56320 ≤ (Hex4 s i).1 ∧ (Hex4 s i).1 ≤ 57343 then (0, 0, 5)
    else if (Hex4 s i).1 < 55296 ∨ 57343 < (Hex4 s i).1 then ((Hex4 s i).1, (i : Int) + 4, 0) else uniT s i (Hex4 s i).1 from rfl)
  have H0 := Lib.hid (Below.refl w.heap.size w)
  go_enter Tryd.func41, Tryd.ntmps41
  go_wp2_with fail
  refine (hex50j s _ i _ rfl hs hi).mono ?_
  rintro e w' ⟨rfl, hn0, hn1, rfl⟩
  generalize hn : (Hex4 s i).1 = n at *
  generalize he : (Hex4 s i).2 = er at *
  clear hn he
  by_cases h0 : er = 0
  · subst h0
    by_cases h1 : 56320 ≤ n ∧ n ≤ 57343
    · have HZ := Lib.hid (show uniF s i = (0, 0, 5) by rw [HU.out, if_neg (by omega), if_pos h1])
      clear HU
      obtain ⟨h1, h2⟩ := h1
      go_wp2_with fail
      go_ret3
      exact ⟨by rw [HZ.out]; rfl, H0.out⟩
    · by_cases h2 : n < 55296 ∨ 57343 < n
      · have HZ := Lib.hid (show uniF s i = (n, (i : Int) + 4, 0) by rw [HU.out, if_neg (by omega), if_neg h1, if_pos h2])
        clear HU h1
        rcases h2 with h2 | h2
        all_goals
          go_wp2_with fail
          all_goals first
            | (exfalso; omega)
            | skip
          all_goals
            go_ret3
            exact ⟨by rw [HZ.out]; rfl, H0.out⟩
      · have HZ := Lib.hid (show uniF s i = uniT s i n by rw [HU.out, if_neg (by omega), if_neg h1, if_neg h2])
        have h3 : 55296 ≤ n := by omega
        have h4 : n < 56320 := by omega
        have h5 : ¬ 56320 ≤ n := by omega
        clear HU h1 h2
        have HT := Lib.hid (show uniT s i n = if ¬ i + 4 < s.size then (0, 0, 4) else if byteI s (i + 4) ≠ 92 then (0, 0, 5) else if ¬ i + 5 < s.size then (0, 0, 4) else if byteI s (i + 5) ≠ 117 then (0, 0, 5)
          else if (Hex4 s (i + 6)).2 ≠ 0 then (0, 0, (Hex4 s (i + 6)).2) else if (Hex4 s (i + 6)).1 < 56320 ∨ 57343 < (Hex4 s (i + 6)).1 then (0, 0, 5)
          else (65536 + (n - 55296) * 1024 + (Hex4 s (i + 6)).1 - 56320, (i : Int) + 10, 0) from rfl)
        have H1 := Lib.hid (belowBox w (.cells #[.int .u8 92, .int .u8 117] 5))
        go_wp2_with fail
        go_loop [39] (fun t => ∃ j : Nat, j ≤ 2 ∧ t = .int .i64 j ∧ (1 ≤ j → i + 4 < s.size ∧ byteI s (i + 4) = 92) ∧ (2 ≤ j → i + 5 < s.size ∧ byteI s (i + 5) = 117)) (fun t => 2 - (intOf t).toNat)
        case atStart => exact ⟨0, by omega, rfl, by omega, by omega⟩
        case round =>
          obtain ⟨j, hj, rfl, hj1, hj2⟩ := hrel
          have hcls : j = 0 ∨ j = 1 ∨ j = 2 := by omega
          rcases hcls with rfl | rfl | rfl
          · clear hj1 hj2
            by_cases g1 : i + 4 < s.size
            · have hb := byteI_eq g1
              by_cases g2 : byteI s (i + 4) = 92
              · have G2 := Lib.hid g2
                go_wp2_with fail
                go_round
                case rel => exact ⟨1, by omega, rfl, fun _ => ⟨g1, G2.out⟩, by omega⟩
                case measure => simp [intOf]
              · have HZ2 := Lib.hid (show uniF s i = (0, 0, 5) by rw [HZ.out, HT.out, if_neg (by omega), if_pos g2])
                have q1 : (byteI s (i + 4) == 92) = false := by simp [g2]
                have q2 : (byteI s (i + 4) != 92) = true := by simp [g2]
                go_wp2_with fail
                go_ret3
                exact ⟨by rw [HZ2.out]; rfl, H1.out⟩
            · have HZ2 := Lib.hid (show uniF s i = (0, 0, 4) by rw [HZ.out, HT.out, if_pos g1])
              go_wp2_with fail
              go_ret3
              exact ⟨by rw [HZ2.out]; rfl, H1.out⟩
          · clear hj2
            obtain ⟨g1, g2⟩ := hj1 (by omega)
            by_cases g3 : i + 5 < s.size
            · have hb := byteI_eq g3
              by_cases g4 : byteI s (i + 5) = 117
              · have G4 := Lib.hid g4
                clear hj1
                go_wp2_with fail
                go_round
                case rel => exact ⟨2, by omega, rfl, fun _ => ⟨g1, g2⟩, fun _ => ⟨g3, G4.out⟩⟩
                case measure => simp [intOf]
              · have HZ2 := Lib.hid (show uniF s i = (0, 0, 5) by rw [HZ.out, HT.out, if_neg (by omega), if_neg (by omega), if_neg (by omega), if_pos g4])
                have q1 : (byteI s (i + 5) == 117) = false := by simp [g4]
                have q2 : (byteI s (i + 5) != 117) = true := by simp [g4]
                clear hj1
                go_wp2_with fail
                go_ret3
                exact ⟨by rw [HZ2.out]; rfl, H1.out⟩
            · have HZ2 := Lib.hid (show uniF s i = (0, 0, 4) by rw [HZ.out, HT.out, if_neg (by omega), if_neg (by omega), if_pos g3])
              clear hj1
              go_wp2_with fail
              go_ret3
              exact ⟨by rw [HZ2.out]; rfl, H1.out⟩
          · obtain ⟨g1, g2⟩ := hj1 (by omega)
            obtain ⟨g3, g4⟩ := hj2 (by omega)
            have HZ2 := Lib.hid (show uniF s i = if (Hex4 s (i + 6)).2 ≠ 0 then (0, 0, (Hex4 s (i + 6)).2) else if (Hex4 s (i + 6)).1 < 56320 ∨ 57343 < (Hex4 s (i + 6)).1 then (0, 0, 5)
              else (65536 + (n - 55296) * 1024 + (Hex4 s (i + 6)).1 - 56320, (i : Int) + 10, 0) by rw [HZ.out, HT.out, if_neg (by omega), if_neg (by omega), if_neg (by omega), if_neg (by omega)])
            clear hj1 hj2 HZ HT
            go_wp2_with fail
            refine (hex50j s _ (i + 6) _ (by omega) hs (by omega)).mono ?_
            rintro e w' ⟨rfl, hm0, hm1, rfl⟩
            generalize hm : (Hex4 s (i + 6)).1 = m at *
            generalize he2 : (Hex4 s (i + 6)).2 = er2 at *
            clear hm he2
            by_cases k0 : er2 = 0
            · subst k0
              by_cases k1 : m < 56320 ∨ 57343 < m
              · have HZ3 := Lib.hid (show uniF s i = (0, 0, 5) by rw [HZ2.out, if_neg (by omega), if_pos k1])
                rcases k1 with k1 | k1
                all_goals
                  go_wp2_with fail
                  all_goals first
                    | (exfalso; omega)
                    | skip
                  all_goals
                    go_ret3
                    exact ⟨by rw [HZ3.out]; rfl, H1.out⟩
              · have HZ3 := Lib.hid (show uniF s i = (65536 + (n - 55296) * 1024 + m - 56320, (i : Int) + 10, 0) by rw [HZ2.out, if_neg (by omega), if_neg k1])
                have k2 : 56320 ≤ m := by omega
                have k3 : m ≤ 57343 := by omega
                have k4 : ¬ m < 56320 := by omega
                have k5 : ¬ 57343 < m := by omega
                clear k1
                go_wp2_with fail
                go_ret3
                exact ⟨by rw [HZ3.out]; rfl, H1.out⟩
            · have HZ3 := Lib.hid (show uniF s i = (0, 0, er2) by rw [HZ2.out, if_pos k0])
              have q1 : (er2 == 0) = false := by simp [k0]
              have q2 : (er2 != 0) = true := by simp [k0]
              clear k0
              go_wp2_with fail
              go_ret3
              exact ⟨by rw [HZ3.out]; rfl, H1.out⟩
  · have HZ := Lib.hid (show uniF s i = (0, 0, er) by rw [HU.out, if_pos h0])
    have hq1 : (er == 0) = false := by simp [h0]
    have hq2 : (er != 0) = true := by simp [h0]
    clear HU h0
    go_wp2_with fail
    go_ret3
    exact ⟨by rw [HZ.out]; rfl, H0.out⟩
end Go.Proofs.YtbpdbmjfnbpihaaDoor
