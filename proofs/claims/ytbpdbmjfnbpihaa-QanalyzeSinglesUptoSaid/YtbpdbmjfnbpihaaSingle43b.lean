/- 'all' of qanalyze and of the reference, given Single of the parts. -/
import Derived.Test.YtbpdbmjfnbpihaaSingle43
namespace Go.Proofs.Ytbpdbmjfnbpihaa
open Go.RowKit

def BoolR (b : Bool) (w : World) (e : Ending) (w' : World) : Prop := e = .returned (.bool b) ∧ Below w.heap.size w w'
def SingAt (F : FuncId) (n : Nat) : Prop := ∀ (x : ExprD) (w : World) (B N : Nat) (cs : List Value), SizeOf.sizeOf x ≤ n → N ≤ 4294967296 → B ≤ w.heap.size → (x.op = 30 ∨ okE x) → ExprD.At w B N x cs →
    Calls Try.prog F #[.agg cs.toArray] w (BoolR (single x) w)

set_option maxHeartbeats 3200000 in
theorem all_of (n : Nat) (ih : SingAt 10 n) (l : List ExprD) (a : Option Addr) (c : Nat) (w : World) (B N : Nat) (hs : ∀ k (h : k < l.length), SizeOf.sizeOf l[k] ≤ n) (hN : N ≤ 4294967296) (hB : B ≤ w.heap.size) (hl : l.length ≤ N) (ho : okL l) (hA : ExprsAt w B N l a) :
    Calls Try.prog 15 #[.slice a l.length c] w (BoolR (allS l) w) := by
  have IH := Lib.hid ih
  have HS := Lib.hid hs
  have HA := Lib.hid hA
  have HO := Lib.hid ho
  clear ih hs hA ho
  go_enter Try.func15, Try.ntmps15
  go_wp2_with fail
  go_simp
  go_loopw [7] (fun i wr => ∃ (k : Nat), k ≤ l.length ∧ i = .int .i64 k ∧ allS (l.drop k) = allS l ∧ Below w.heap.size w wr) (fun i _ => l.length - (intOf i).toNat)
  case atStart => exact ⟨0, by omega, rfl, by simp, Below.refl _ _⟩
  case round =>
    obtain ⟨w1, rfl⟩ : ∃ w1, w1 = wr := ⟨wr, rfl⟩
    obtain ⟨k, hk, rfl, hall, hbel⟩ := hrel
    have HL := Lib.hid hall
    have HB := Lib.hid hbel
    clear hbel hall
    by_cases hlt : k < l.length
    case neg =>
      have HT := Lib.hid (show allS l = true by rw [← HL.out, List.drop_eq_nil_of_le (by omega)]; simp [allS])
      go_wp2_with fail
      go_ret
      exact ⟨by rw [HT.out]; rfl, HB.out⟩
    obtain ⟨b, p, rfl, hb, hget⟩ := HA.out.get (by intro h; simp [h] at hlt)
    obtain ⟨es, g1, g2⟩ := hget k hlt
    have HD := Lib.hid (allS_drop hlt)
    have HOk := Lib.hid (okL_get HO.out k hlt)
    have hBr := Lib.hid (Nat.le_trans hB HB.out.size)
    have HR := Lib.hid (g1.below HB.out (Nat.lt_of_lt_of_le hb hB)).range
    have g2' := g2.below (HB.out.mono hB)
    have HE := Lib.hid (g2'.below ((belowBox w1 (.cells es.toArray 38)).mono hBr.out))
    obtain ⟨aa, fa, ac, fc, vs, gh⟩ := g2'.has
    have f0 := gh.op
    have hle := Lib.hid (show (Try.prog.info? 38).map (·.size) = some es.length by rw [gh.len]; exact sizeE)
    have hle2 := Lib.hid (show (Try.prog.info? 38).map (·.size) = some es.toArray.size by rw [List.size_toArray, gh.len]; exact sizeE)
    have h17 := Lib.hid (show 17 = es.toArray.size by rw [List.size_toArray, gh.len])
    have hone := Lib.hid (show es.toArray.all (·.oneCell') = true from Go.all_oneCell_toArray g2'.one)
    have FX := Lib.hid (box_at w1 es 38)
    have HW := Lib.hid (show Below w.heap.size w (w1.alloc (.cells es.toArray 38)) from belowThen HB.out (belowBox w1 _))
    clear gh g1 g2 g2' hget hb
    by_cases h30 : (l[k]).op = 30
    · have HN := Lib.hid (show allS (l.drop (k + 1)) = allS l by rw [← HL.out, HD.out, h30]; simp)
      rw [h30] at f0
      clear h30
      go_wp2_with (first
        | (refine wpList_load_mid rfl 38 _ rfl b (p + k * 17) rfl es _ HR.out Try.underlying38 rfl hle.out ?_)
        | (refine wpList_store_new rfl 38 _ _ rfl _ es.toArray rfl rfl hle2.out h17.out hone.out ?_))
      go_roundw
      case rel => exact ⟨k + 1, by omega, by go_num, HN.out, HW.out⟩
      case measure => simp [intOf]; omega
    · have h30b : ((l[k]).op == 30) = false := by simpa using h30
      have h30n : ((l[k]).op != 30) = true := by simpa using h30
      clear h30
      go_wp2_with (first
        | (refine wpList_load_mid rfl 38 _ rfl b (p + k * 17) rfl es _ HR.out Try.underlying38 rfl hle.out ?_)
        | (refine wpList_store_new rfl 38 _ _ rfl _ es.toArray rfl rfl hle2.out h17.out hone.out ?_)
        | (refine wpList_load_mid_g rfl 38 _ rfl w1.heap.size 0 rfl es _ FX.out.range Try.underlying38 rfl hle.out ?_))
      refine (IH.out l[k] _ B N es (HS.out k hlt) hN (Nat.le_trans hB HW.out.size) HOk.out HE.out).mono ?_
      rintro e w2 ⟨rfl, hb2⟩
      have HW2 := Lib.hid (belowThen HW.out hb2)
      clear hb2
      cases hsg : single l[k] with
      | true =>
        have HN := Lib.hid (show allS (l.drop (k + 1)) = allS l by rw [← HL.out, HD.out, hsg]; simp)
        go_wp2_with fail
        go_roundw
        case rel => exact ⟨k + 1, by omega, by go_num, HN.out, HW2.out⟩
        case measure => simp [intOf]; omega
      | false =>
        have HN := Lib.hid (show allS l = false by rw [← HL.out, HD.out, hsg, h30b]; simp)
        go_wp2_with fail
        go_ret
        exact ⟨by rw [HN.out]; rfl, HW2.out⟩
end Go.Proofs.Ytbpdbmjfnbpihaa
