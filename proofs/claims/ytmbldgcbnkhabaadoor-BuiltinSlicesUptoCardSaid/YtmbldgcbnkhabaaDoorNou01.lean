/- Noughts of the reference (datakitref01): so many zeros. -/
import Derived.Test.YtmbldgcbnkhabaaDoorInt01
import Derived.OwnWalk
import Derived.Laws.OwnMore
namespace Go.Proofs.YtmbldgcbnkhabaaDoor
open Go.RowKit

theorem infoU8 : (Tryd.prog.info? 5).map (fun i => (i.zero, i.size, i.bytes)) = some (some (.int .u8 0), 1, 1) := by kernel_rfl
theorem conv_owned {w : World} {B n : Nat} {v : Value} {out : List Int} (h : w.ownsRow B 5 1 v n (out.map (Value.int .u8))) (hn : n = out.length) :
    (convert 26 9 v).run Tryd.prog w = .ok (.string (strOfNums out)) w := by
  rcases h.2 with ⟨rfl, h0⟩ | ⟨g, cap, cur, rfl, hb, hg, _⟩
  · have : out = [] := List.length_eq_zero_iff.1 (by omega)
    subst this
    exact run_convert_bytes_nil w 26 5 Tryd.underlying26 Tryd.underlying5 0 0 9 Tryd.underlying9
  · refine run_convert_bytes_arg w 26 5 Tryd.underlying26 Tryd.underlying5 g 0 n cap out hn.symm (fun i hi => ?_) 9 Tryd.underlying9
    have hi' : i < out.length := by omega
    have := h.cells (g := g) rfl i (.int .u8 (out.getD i 0)) (by simp [List.getElem?_eq_getElem hi', List.getD])
    have hadd : (⟨g, 0, none⟩ : Addr).add i = ⟨g, i, none⟩ := by unfold Addr.add; split <;> simp_all
    rw [hadd] at this
    rw [Nat.zero_add]
    exact this
def zerosS (n : Nat) : ByteArray := strOfNums (List.replicate n 48)
def zerosAt (n k : Nat) : List Int := List.replicate k 48 ++ List.replicate (n - k) 0
theorem zerosAt_len {n k : Nat} (h : k ≤ n) : (zerosAt n k).length = n := by unfold zerosAt; simp; omega
theorem zerosAt_full (n : Nat) : zerosAt n n = List.replicate n 48 := by unfold zerosAt; simp
theorem zerosAt_set {n k : Nat} (h : k < n) : (zerosAt n k).set k 48 = zerosAt n (k + 1) := by
  unfold zerosAt
  rw [List.set_append_right _ _ (by simp)]
  obtain ⟨m, hm⟩ : ∃ m, n - k = m + 1 := ⟨n - k - 1, by omega⟩
  rw [hm, show n - (k + 1) = m by omega, List.length_replicate, Nat.sub_self, List.replicate_succ, List.set_cons_zero, List.replicate_succ' (n := k), List.append_assoc]
  rfl
theorem made_zeros (n : Nat) : (madeCells (Value.cells (.int .u8 0)) (n * 1)).toList = (zerosAt n 0).map (Value.int .u8) := by
  apply List.ext_getElem?
  intro i
  unfold madeCells zerosAt
  by_cases h : i < n
  · simp [h, Value.cells, Nat.mod_one]
  · simp [h]
def NouR (n : Nat) (w : World) (e : Ending) (w' : World) : Prop := e = .returned (.string (zerosS n)) ∧ Below w.heap.size w w'
set_option maxRecDepth 100000 in
set_option maxHeartbeats 1600000 in
theorem noughts_ex (n : Nat) (w : World) (hn : n ≤ 400) : Calls Tryd.prog 53 #[.int .i64 n] w (NouR n w) := by
  obtain ⟨i0, hin, hz0, hz1, hz2⟩ := info_parts infoU8
  go_enter Tryd.func53, Tryd.ntmps53
  go_wp2_with (refine wpList_make_full _ rfl _ _ 26 rfl w.heap.size 5 i0 (.int .u8 0) 1 Tryd.underlying26 hin hz0 hz1 .i64 .i64 _ _ n rfl rfl rfl rfl (by rw [hz2]; omega) (by unfold maxLen; omega) (Nat.le_refl _) ?_)
  intro w1 hown hgrow
  have HO := Lib.hid (show w1.ownsRow w.heap.size 5 1 (.slice (some ⟨w.heap.size, 0, none⟩) n n) n ((zerosAt n 0).map (Value.int .u8)) by rw [← made_zeros]; simpa [Value.cells] using hown)
  have HB := Lib.hid (show Below w.heap.size w w1 from Below.grown (Below.refl _ _) hgrow (Nat.le_refl _) (fun j hj => by cases hj))
  clear hown hgrow
  go_wp2_with fail
  go_simp
  go_loopw [4] (fun i wr => ∃ k : Nat, k ≤ n ∧ i = .int .i64 k ∧ wr.ownsRow w.heap.size 5 1 (.slice (some ⟨w.heap.size, 0, none⟩) n n) n ((zerosAt n k).map (Value.int .u8)) ∧ Below w.heap.size w wr) (fun i _ => n - (intOf i).toNat)
  case atStart => exact ⟨0, by omega, rfl, HO.out, HB.out⟩
  case round =>
    clear HO HB
    obtain ⟨w2, rfl⟩ : ∃ w2, w2 = wr := ⟨wr, rfl⟩
    obtain ⟨k, hk, rfl, hown, hbel⟩ := hrel
    have HO := Lib.hid hown
    have HB := Lib.hid hbel
    by_cases hlt : k < n
    · have hc := hown.cellAt k (by omega)
      have hf := hown.frozenAt k
      have hst := Lib.hid (hown.stored k (.int .u8 48))
      rw [List.getElem?_map, List.getElem?_eq_getElem (by rw [zerosAt_len hk]; exact hlt), Option.map_some] at hc
      have HN := Lib.hid (show (w2.setCell ⟨w.heap.size, k, none⟩ (.int .u8 48)).ownsRow w.heap.size 5 1 (.slice (some ⟨w.heap.size, 0, none⟩) n n) n ((zerosAt n (k + 1)).map (Value.int .u8)) by
        have := hst.out.1
        rw [← zerosAt_set hlt]
        simpa [List.map_set] using this)
      have HB2 := Lib.hid (show Below w.heap.size w (w2.setCell ⟨w.heap.size, k, none⟩ (.int .u8 48)) from Below.grown hbel hst.out.2 hbel.size (fun j hj => by cases hj; exact Nat.le_refl _))
      clear hown hbel hst
      go_wp2_with fail
      go_roundw
      case rel => exact ⟨k + 1, by omega, by go_num, HN.out, HB2.out⟩
      case measure => simp [intOf]; omega
    · obtain rfl : n = k := by omega
      clear hown hbel
      have HC := HO.out
      rw [zerosAt_full] at HC
      have hconv := conv_owned HC (by simp)
      clear HC
      go_wp2_with fail
      go_ret
      exact ⟨rfl, HB.out⟩
theorem strOf_rep (n : Nat) : ((⟨(Lib.repeatL [48] n).toArray⟩ : ByteArray)) = zerosS n := by
  have h : ∀ n, Lib.repeatL [48] n = List.replicate n 48 := fun n => by
    induction n with
    | zero => rfl
    | succ n ih => rw [Lib.repeatL, ih, List.replicate_succ]; rfl
  rw [h]
  unfold zerosS strOfNums
  congr 1
  simp
end Go.Proofs.YtmbldgcbnkhabaaDoor
