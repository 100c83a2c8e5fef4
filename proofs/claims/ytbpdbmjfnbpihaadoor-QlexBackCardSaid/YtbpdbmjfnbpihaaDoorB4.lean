/- Unquote of layer 35, of a string in quotation marks. -/
import Derived.Test.YtbpdbmjfnbpihaaDoorB2
import Derived.Test.YtbpdbmjfnbpihaaDoorL10
namespace Go.Proofs.YtbpdbmjfnbpihaaDoor
open Go.RowKit

theorem quoteS_first (s : ByteArray) : byteI (quoteS s) 0 = 34 := ((quoteS_stands s).get (j := 0) rfl).1
theorem quoteS_le {s : ByteArray} (hs : s.size ≤ 5000) : (quoteS s).size ≤ 30002 := by
  have h1 := escL_len (nums s)
  have h2 := nums_length s
  rw [quoteS_size]
  omega
theorem ne_toList {a : ByteArray} (h : 0 < a.size) : ¬ a.toList = [] := by
  intro e
  have h3 : a.toList.length = 0 := by rw [e]; rfl
  rw [ByteArray.toList_eq, Array.length_toList] at h3
  have h4 : a.data.size = a.size := rfl
  omega

def UnqR (s : ByteArray) (w : World) (e : Ending) (w' : World) : Prop := e = .returned (.tuple #[.string s, .int .i64 0]) ∧ Below w.heap.size w w'
theorem quo_at (a : ByteArray) (j : Int) (i : Nat) (w : World) (hj : j = i) (hs : a.size ≤ 1099511627776) (hi : i < a.size) : Calls Tryd.prog 27 #[.string a, .int .i64 j] w (QuoR a i w) := by subst hj; exact quoted27 a i w hs hi
set_option maxRecDepth 8000 in
set_option maxHeartbeats 1600000 in
theorem unquote19 (s a : ByteArray) (w : World) (ha : a.size ≤ 30002) (h2 : 2 ≤ a.size) (hs : s.size ≤ 5000) (h34 : byteI a 0 = 34) (hq : quotedF a a.size 1 [] = (nums s, (a.size : Int), 0)) (hT : Lib.Utf8Tabs 3 4 w) (hv : validS a = true) :
    Calls Tryd.prog 19 #[.string a] w (UnqR s w) := by
  have HQ := Lib.hid hq
  have hi : 0 < a.size := by omega
  have hb := byteI_eq hi
  have he0 := ne_toList hi
  have HE0 := Lib.hid he0
  clear hq he0
  go_enter Tryd.func19, Tryd.ntmps19
  go_wp2_with fail
  refine (bad24 a w (by omega) hT hv).mono ?_
  rintro e w0 ⟨rfl, hb0⟩
  clear hT hv
  have HB0 := Lib.hid hb0
  clear hb0
  have he0 := HE0.out
  have he1 : (a.toList == []) = false := by simp [he0]
  have he2 : a.toList.isEmpty = false := by simp [he0]
  have q1 : (byteI a 0 == 34) = true := by simp [h34]
  have q2 : (byteI a 0 != 34) = false := by simp [h34]
  go_wp2_with fail
  refine (quo_at a _ 0 w0 rfl (by omega) hi).mono ?_
  rintro e w1 ⟨rfl, hb1⟩
  have HB1 := Lib.hid (belowThen HB0.out hb1)
  clear hb1
  rw [show (0 + 1 : Nat) = 1 from rfl, HQ.out]
  simp only [strOfNums_nums]
  go_wp2_with fail
  go_ret2
  exact ⟨rfl, HB1.out⟩
end Go.Proofs.YtbpdbmjfnbpihaaDoor
