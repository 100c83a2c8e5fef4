/- Noughts of the reference (datakitref01): so many zeros. -/
import Derived.Test.YtnoddigkafldfaaDoorInt01
import Derived.OwnWalk
import Derived.Laws.OwnMore
namespace Go.Proofs.YtnoddigkafldfaaDoor
open Go.RowKit

theorem infoU8 : (Tryd.prog.info? 5).map (fun i => (i.zero, i.size, i.bytes)) = some (some (.int .u8 0), 1, 1) := by kernel_rfl
theorem conv_owned {w : World} {B n : Nat} {v : Value} {out : List Int} (h : w.ownsRow B 5 1 v n (out.map (Value.int .u8))) (hn : n = out.length) :
    (convert 34 9 v).run Tryd.prog w = .ok (.string (strOfNums out)) w := by
  rcases h.2 with ⟨rfl, h0⟩ | ⟨g, cap, cur, rfl, hb, hg, _⟩
  · have : out = [] := List.length_eq_zero_iff.1 (by omega)
    subst this
    exact run_convert_bytes_nil w 34 5 Tryd.underlying34 Tryd.underlying5 0 0 9 Tryd.underlying9
  · refine run_convert_bytes_arg w 34 5 Tryd.underlying34 Tryd.underlying5 g 0 n cap out hn.symm (fun i hi => ?_) 9 Tryd.underlying9
    have hi' : i < out.length := by omega
    have := h.cells (g := g) rfl i (.int .u8 (out.getD i 0)) (by simp [List.getElem?_eq_getElem hi', List.getD])
    have hadd : (⟨g, 0, none⟩ : Addr).add i = ⟨g, i, none⟩ := by unfold Addr.add; split <;> simp_all
    rw [hadd] at this
    rw [Nat.zero_add]
    exact this
def zerosS (n : Nat) : ByteArray := strOfNums (List.replicate n 48)
def zerosAt (n k : Nat) : List Int := List.replicate k 48 ++ List.replicate (n - k) 0
theorem zerosAt_len {n k : Nat} (h : k ≤ n) : (zerosAt n k).length = n := by unfold zerosAt; simp; omega
theorem zerosAt_full (n : Nat) : zerosAt n n = List.replicate n 48 := by unfold zerosAt; simp
theorem zerosAt_set {n k : Nat} (h : k < n) : (zerosAt n k).set k 48 = zerosAt n (k + 1) := by
  unfold zerosAt
  rw [List.set_append_right _ _ (by simp)]
  obtain ⟨m, hm⟩ : ∃ m, n - k = m + 1 := ⟨n - k - 1, by omega⟩
  rw [hm, show n - (k + 1) = m by omega, List.length_replicate, Nat.sub_self, List.replicate_succ, List.set_cons_zero, List.replicate_succ' (n := k), List.append_assoc]
  rfl
theorem made_zeros (n : Nat) : (madeCells (Value.cells (.int .u8 0)) (n * 1)).toList = (zerosAt n 0).map (Value.int .u8) := by
  apply List.ext_getElem?
  intro i
  unfold madeCells zerosAt
  by_cases h : i < n
  · simp [h, Value.cells, Nat.mod_one]
  · simp [h]
def NouR (n : Nat) (w : World) (e : Ending) (w' : World) : Prop := e = .returned (.string (zerosS n)) ∧ Below w.heap.size w w'
end Go.Proofs.YtnoddigkafldfaaDoor
