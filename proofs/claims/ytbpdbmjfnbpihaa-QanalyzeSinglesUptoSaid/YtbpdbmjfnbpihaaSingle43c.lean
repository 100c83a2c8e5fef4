/- 'all' of the reference, given Single of the parts. -/
import Derived.Test.YtbpdbmjfnbpihaaSingle43b
namespace Go.Proofs.Ytbpdbmjfnbpihaa
open Go.RowKit

set_option maxHeartbeats 3200000 in
theorem all43_of (n : Nat) (ih : SingAt 11 n) (x : ExprD) (w : World) (B N : Nat) (cs : List Value) (hs : ∀ k (h : k < x.args.length), SizeOf.sizeOf x.args[k] ≤ n) (hN : N ≤ 4294967296) (hB : B ≤ w.heap.size) (ho : okL x.args) (hx : ExprD.At w B N x cs) :
    Calls Try.prog 16 #[.agg cs.toArray, .int .i64 0] w (BoolR (allS x.args) w) := by
  have IH := Lib.hid ih
  have HS := Lib.hid hs
  have HO := Lib.hid ho
  have H0 := Lib.hid (show Below w.heap.size w (w.alloc (.cells cs.toArray 38)) from belowBox w _)
  have HB0 := Lib.hid (box_at w cs 38)
  have hs0 := Lib.hid (show w.heap.size < (w.alloc (.cells cs.toArray 38)).heap.size by rw [World.size_alloc]; omega)
  obtain ⟨aa, fa, ac, fc, vs, hh⟩ := hx.has
  have c15 := hh.args
  have hal : x.args.length ≤ N := hh.own.2.2.1
  have HA := Lib.hid hh.atArgs
  clear ih hs ho hh hx
  go_enter Try.func16, Try.ntmps16
  go_wp2_with fail
  go_simp
  go_loopw [5] (fun i wr => ∃ (k : Nat), k ≤ x.args.length ∧ i = .int .i64 k ∧ allS (x.args.drop k) = allS x.args ∧ Below (w.alloc (.cells cs.toArray 38)).heap.size (w.alloc (.cells cs.toArray 38)) wr) (fun i _ => x.args.length - (intOf i).toNat)
  case atStart => exact ⟨0, by omega, rfl, by simp, Below.refl _ _⟩
  case round =>
    obtain ⟨w1, rfl⟩ : ∃ w1, w1 = wr := ⟨wr, rfl⟩
    obtain ⟨k, hk, rfl, hall, hbel⟩ := hrel
    have HL := Lib.hid hall
    have R1 := Lib.hid (HB0.out.below hbel hs0.out)
    have HB1 := Lib.hid hbel
    have HB := Lib.hid (belowThen H0.out hbel)
    clear hbel hall
    have d15 := R1.out.get0 c15
    by_cases hlt : k < x.args.length
    case neg =>
      have HT := Lib.hid (show allS x.args = true by rw [← HL.out, List.drop_eq_nil_of_le (by omega)]; simp [allS])
      go_wp2_with fail
      go_ret
      exact ⟨by rw [HT.out]; rfl, HB.out⟩
    obtain ⟨b, p, rfl, hb, hget⟩ := HA.out.get (by intro h; simp [h] at hlt)
    obtain ⟨es, g1, g2⟩ := hget k hlt
    have HD := Lib.hid (allS_drop hlt)
    have HOk := Lib.hid (okL_get HO.out k hlt)
    have hBr := Lib.hid (Nat.le_trans hB HB.out.size)
    have HC := Lib.hid (g1.below HB.out (Nat.lt_of_lt_of_le hb hB))
    have HE := Lib.hid (g2.below (HB.out.mono hB))
    obtain ⟨aa1, fa1, ac1, fc1, vs1, gh⟩ := g2.has
    have q0 := HC.out.get0' gh.op
    have hle := Lib.hid (show (Try.prog.info? 38).map (·.size) = some es.length by rw [gh.len]; exact sizeE)
    clear gh g1 g2 hget hb
    by_cases h30 : (x.args[k]).op = 30
    · have HN := Lib.hid (show allS (x.args.drop (k + 1)) = allS x.args by rw [← HL.out, HD.out, h30]; simp)
      rw [h30] at q0
      clear h30
      go_wp2_with fail
      go_roundw
      case rel => exact ⟨k + 1, by omega, by go_num, HN.out, HB1.out⟩
      case measure => simp [intOf]; omega
    · have h30b : ((x.args[k]).op == 30) = false := by simpa using h30
      have h30n : ((x.args[k]).op != 30) = true := by simpa using h30
      clear h30
      go_wp2_with (refine wpList_load_mid_g rfl 38 _ rfl b (p + k * 17) rfl es _ HC.out.range Try.underlying38 rfl hle.out ?_)
      refine (IH.out x.args[k] _ B N es (HS.out k hlt) hN hBr.out HOk.out HE.out).mono ?_
      rintro e w2 ⟨rfl, hb2⟩
      have HW1 := Lib.hid (belowThen HB1.out hb2)
      have HW2 := Lib.hid (belowThen HB.out hb2)
      clear hb2
      cases hsg : single x.args[k] with
      | true =>
        have HN := Lib.hid (show allS (x.args.drop (k + 1)) = allS x.args by rw [← HL.out, HD.out, hsg]; simp)
        go_wp2_with fail
        go_roundw
        case rel => exact ⟨k + 1, by omega, by go_num, HN.out, HW1.out⟩
        case measure => simp [intOf]; omega
      | false =>
        have HN := Lib.hid (show allS x.args = false by rw [← HL.out, HD.out, hsg, h30b]; simp)
        go_wp2_with fail
        go_ret
        exact ⟨by rw [HN.out]; rfl, HW2.out⟩
end Go.Proofs.Ytbpdbmjfnbpihaa
