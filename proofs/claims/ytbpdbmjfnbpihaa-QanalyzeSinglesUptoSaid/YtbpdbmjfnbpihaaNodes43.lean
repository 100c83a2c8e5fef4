/- nodes (of the law): it returns, and writes nothing that was there. -/
import Derived.Test.YtbpdbmjfnbpihaaEx36
namespace Go.Proofs.Ytbpdbmjfnbpihaa
open Go.RowKit

def SomeInt43 (w : World) (e : Ending) (w' : World) : Prop := ∃ (k : Int), e = .returned (.int .i64 k) ∧ Below w.heap.size w w'

set_option maxHeartbeats 1600000 in
theorem nodes_any (n : Nat) : ∀ (w : World) (B N : Nat) (e : ExprD) (cs : List Value) (left : Int), n ≤ 60 → N ≤ 1099511627776 → B ≤ w.heap.size → ExprD.At w B N e cs →
    Calls Try.prog 13 #[.agg cs.toArray, .int .i64 left, .int .i64 n] w (SomeInt43 w) := by
  induction n with
  | zero =>
    intro w B N e cs left hn hN hB he
    clear he
    go_enter Try.func13, Try.ntmps13
    go_wp2_with fail
    go_ret
    exact ⟨_, rfl, (Below.refl _ _).alloc (Nat.le_refl _) _⟩
  | succ n ih =>
    intro w B N e cs left hn hN hB he
    obtain ⟨aa, fa, ac, fc, vs, hh⟩ := he.has
    have hal := hh.own.2.2.1
    have hfl := hh.own.2.2.2
    have c15 := hh.args
    have c16 := hh.funcs
    have HE := Lib.hid hh
    have IH := Lib.hid ih
    clear he hh ih
    go_enter Try.func13, Try.ntmps13
    go_wp2_with fail
    all_goals first
      | (go_ret; exact ⟨_, rfl, (Below.refl _ _).alloc (Nat.le_refl _) _⟩)
      | skip
    go_simp
    go_loopw [1, 7] (fun l i wr => ∃ (x : Int) (k : Nat), k ≤ e.args.length ∧ l = .int .i64 x ∧ i = .int .i64 k ∧ wr.cell? ⟨w.heap.size, 15, none⟩ = some (.slice aa e.args.length ac) ∧ wr.cell? ⟨w.heap.size, 16, none⟩ = some (.slice fa e.funcs.length fc) ∧ w.heap.size < wr.heap.size ∧ Below w.heap.size w wr)
      (fun _ i _ => e.args.length - (intOf i).toNat)
    case atStart => exact ⟨_, 0, by omega, rfl, rfl, by go_simp, by go_simp, by simp, (Below.refl _ _).alloc (Nat.le_refl _) _⟩
    case round =>
      obtain ⟨x, k, hk, rfl, rfl, hc15, hc16, hsz, hbel⟩ := hrel
      have HB := Lib.hid hbel
      clear hbel
      by_cases hgo : k < e.args.length ∧ 0 ≤ x
      · obtain ⟨hlt, hx⟩ := hgo
        obtain ⟨b, o, rfl, hb, hget⟩ := HE.out.atArgs.get (by intro h; simp [h] at hlt)
        obtain ⟨cs1, h1, h2⟩ := hget k hlt
        have HR := Lib.hid (h1.below (HB.out.mono hB) hb).range
        have H4 := Lib.hid (h2.below (HB.out.mono hB))
        have hl := Lib.hid (show (Try.prog.info? 38).map (·.size) = some cs1.length by rw [h2.len]; exact sizeE)
        clear h1 h2 hget
        go_wp2_with (refine wpList_load_mid rfl 38 _ rfl b (o + k * 17) rfl cs1 _ HR.out Try.underlying38 rfl hl.out ?_)
        refine (IH.out _ B N _ _ x (by omega) hN (Nat.le_trans hB HB.out.size) H4.out).mono ?_
        rintro e1 w1 ⟨y, rfl, hb1⟩
        have d15 := (hb1.cell (p := ⟨w.heap.size, 15, none⟩) hsz).trans hc15
        have d16 := (hb1.cell (p := ⟨w.heap.size, 16, none⟩) hsz).trans hc16
        have hs1 : w.heap.size < w1.heap.size := Nat.lt_of_lt_of_le hsz hb1.size
        have HB1 := Lib.hid (HB.out.trans (hb1.mono HB.out.size))
        clear hb1 hc15 hc16 hsz
        go_wp2_with fail
        go_roundw
        case rel => exact ⟨y, k + 1, by omega, rfl, by go_num, d15, d16, hs1, HB1.out⟩
        case measure => simp [intOf]; omega
      · have hgo' : ¬ k < e.args.length ∨ (k < e.args.length ∧ ¬ 0 ≤ x) := by omega
        clear hgo
        rcases hgo' with hgo | ⟨hg1, hg2⟩
        all_goals
          go_wp2_with fail
          go_simp
          go_loopw [1, 8] (fun l i wr => ∃ (x : Int) (k : Nat), k ≤ e.funcs.length ∧ l = .int .i64 x ∧ i = .int .i64 k ∧ wr.cell? ⟨w.heap.size, 16, none⟩ = some (.slice fa e.funcs.length fc) ∧ w.heap.size < wr.heap.size ∧ Below w.heap.size w wr)
            (fun _ i _ => e.funcs.length - (intOf i).toNat)
          case atStart => exact ⟨_, 0, by omega, rfl, rfl, hc16, hsz, HB.out⟩
          case round =>
            clear HB hc15 hc16 hsz
            obtain ⟨x2, k2, hk2, rfl, rfl, hc16, hsz, hbel⟩ := hrel
            have HB := Lib.hid hbel
            clear hbel
            by_cases hgo2 : k2 < e.funcs.length ∧ 0 ≤ x2
            · obtain ⟨hlt2, hx2⟩ := hgo2
              obtain ⟨b, o, rfl, hb, hget⟩ := HE.out.atFuncs.get (by intro h; simp [h] at hlt2)
              obtain ⟨cs1, h1, h2⟩ := hget k2 hlt2
              obtain ⟨cs2, h3, h4⟩ := FuncD.At.bodyAt h1 h2
              have HR := Lib.hid (h3.below (HB.out.mono hB) hb).range
              have H4 := Lib.hid (h4.below (HB.out.mono hB))
              have hl := Lib.hid (show (Try.prog.info? 38).map (·.size) = some cs2.length by rw [h4.len]; exact sizeE)
              clear h1 h2 h3 h4 hget
              go_wp2_with (refine wpList_load_mid rfl 38 _ rfl b (o + k2 * 19 + 2) rfl cs2 _ HR.out Try.underlying38 rfl hl.out ?_)
              refine (IH.out _ B N _ _ x2 (by omega) hN (Nat.le_trans hB HB.out.size) H4.out).mono ?_
              rintro e1 w1 ⟨y, rfl, hb1⟩
              have d16 := (hb1.cell (p := ⟨w.heap.size, 16, none⟩) hsz).trans hc16
              have hs1 : w.heap.size < w1.heap.size := Nat.lt_of_lt_of_le hsz hb1.size
              have HB1 := Lib.hid (HB.out.trans (hb1.mono HB.out.size))
              clear hb1 hc16 hsz
              go_wp2_with fail
              go_roundw
              case rel => exact ⟨y, k2 + 1, by omega, rfl, by go_num, d16, hs1, HB1.out⟩
              case measure => simp [intOf]; omega
            · have hgo' : ¬ k2 < e.funcs.length ∨ (k2 < e.funcs.length ∧ ¬ 0 ≤ x2) := by omega
              clear hgo2
              rcases hgo' with hgo3 | ⟨hg3, hg4⟩
              all_goals
                go_wp2_with fail
                go_ret
                exact ⟨_, rfl, HB.out⟩
end Go.Proofs.Ytbpdbmjfnbpihaa
