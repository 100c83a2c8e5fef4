/- Letters, digits, names, keywords and identifiers of the program (qlex): the same plain functions as the reference's. -/
import Derived.Test.YtfegnmbdgdjkgaaGreatId35
namespace Go.Proofs.YtfegnmbdgdjkgaaGreat
open Go.RowKit

def kwArr : Array Value := (kws.map fun k => Value.string (bs k)).toArray
theorem kwArr_size : kwArr.size = 18 := rfl
def kwAt (k : Nat) : ByteArray := bs (kws.getD k [])
theorem bs_toList (l : List UInt8) : (bs l).toList = l := by rw [ByteArray.toList_eq]; rfl
theorem isKw_true (s : ByteArray) (k : Nat) (hk : k < 18) (h : ((kwAt k).toList == s.toList) = true) : isKw s = true := by
  have e : (kwAt k).toList = s.toList := by simpa using h
  unfold isKw
  rw [List.any_eq_true]
  refine ⟨kws.getD k [], ?_, ?_⟩
  · have hk' : k < kws.length := hk
    have e2 : kws.getD k [] = kws[k] := by simp [List.getD, List.getElem?_eq_getElem hk']
    rw [e2]
    exact List.getElem_mem _
  · rw [← e]; unfold kwAt; rw [bs_toList]; simp
theorem isKw_false (s : ByteArray) (h : ∀ j, j < 18 → ((kwAt j).toList == s.toList) = false) : isKw s = false := by
  unfold isKw
  rw [List.any_eq_false]
  intro x hx
  obtain ⟨j, hj, rfl⟩ := List.getElem_of_mem hx
  have := h j hj
  unfold kwAt at this
  have e2 : kws.getD j [] = kws[j] := by simp [List.getD, List.getElem?_eq_getElem hj]
  rw [bs_toList, e2] at this
  have h2 : kws[j] ≠ s.toList := by simpa using this
  simpa using fun e : s.toList = kws[j] => h2 e.symm

end Go.Proofs.YtfegnmbdgdjkgaaGreat
