/- The law QlexBack: its walk. -/
import Derived.Test.YtbpdbmjfnbpihaaDoorB3
import Derived.Test.YtbpdbmjfnbpihaaDoorB5
namespace Go.Proofs.YtbpdbmjfnbpihaaDoor
open Go.RowKit

theorem next_first {s : ByteArray} (hs : s.size ≤ 5000) (w : World) : Calls Tryd.prog 17 #[.string (quoteS s), .int .i64 0] w fun e w' =>
    e = .returned (.tuple #[.agg #[.int .i64 5, .string (quoteS s), .int .i64 0], .int .i64 0]) ∧ Below w.heap.size w w' := by
  have h := quoteS_next hs w
  rw [ByteArray.extract_zero_size] at h
  exact h
def LawB (w : World) (e : Ending) (w' : World) : Prop := e = .returned (.bool true) ∧ Below w.heap.size w w'

set_option maxRecDepth 8000 in
set_option maxHeartbeats 1600000 in
theorem law6 (s : ByteArray) (w : World) (hs0 : s.size ≤ maxLen) (hT : Lib.Utf8Tabs 3 4 w) : Calls Tryd.prog 6 #[.string s] w (LawB w) := by
  have HT := Lib.hid hT
  clear hT
  unfold maxLen at hs0
  by_cases hs : s.size ≤ 5000
  case neg =>
    have hgt : (5000 : Int) < s.size := by omega
    go_enter Tryd.func6, Tryd.ntmps6
    go_wp2_with fail
    go_ret
    exact ⟨rfl, Below.refl _ _⟩
  have hgt : ¬ (5000 : Int) < s.size := by omega
  go_enter Tryd.func6, Tryd.ntmps6
  go_wp2_with fail
  refine (bad35 s w (by omega)).mono ?_
  rintro e w0 ⟨b, rfl, hb, m, rfl⟩
  have HB0 := Lib.hid (show Below w.heap.size w (w.drewN m) from ⟨rfl, rfl, rfl, Nat.le_refl _, fun _ _ => rfl⟩)
  by_cases hb0 : b < 0
  case neg =>
    clear hb
    go_wp2_with fail
    go_ret
    exact ⟨rfl, HB0.out⟩
  have HV := Lib.hid (hb.1 hb0)
  clear hb
  go_wp2_with fail
  refine (quote18 s _ hs (tabs_below HT.out HB0.out) HV.out).mono ?_
  rintro e w1 ⟨rfl, hb1⟩
  have HB1 := Lib.hid (HB0.out.trans (hb1.mono HB0.out.size))
  clear hb1
  have hal := quoteS_le hs
  have haz := quoteS_size s
  have HV2 := Lib.hid (quoteS_valid HV.out)
  have HF := Lib.hid (quoteS_first s)
  have HR := Lib.hid (quoteS_read s)
  have HNx := Lib.hid (fun u => next_first (s := s) hs u)
  have ha2 : 2 ≤ (quoteS s).size := by omega
  clear haz
  generalize quoteS s = a at *
  go_wp2_with fail
  refine (HNx.out _).mono ?_
  rintro e w2 ⟨rfl, hb2⟩
  have HB2 := Lib.hid (HB1.out.trans (hb2.mono HB1.out.size))
  clear hb2
  have HB3 := Lib.hid (show Below w.heap.size w (w2.alloc (.cells #[.int .i64 5, .string a, .int .i64 0] 33)) from HB2.out.alloc HB2.out.size _)
  go_wp2_with fail
  refine (unquote19 s a _ hal ha2 hs HF.out HR.out (tabs_below HT.out HB3.out) HV2.out).mono ?_
  rintro e w3 ⟨rfl, hb3⟩
  have HB4 := Lib.hid (HB3.out.trans (hb3.mono HB3.out.size))
  have hg : w3.heap[w2.heap.size]? = some (.cells #[.int .i64 5, .string a, .int .i64 0] 33 (0, 0)) := (hb3.block w2.heap.size (by rw [World.size_alloc]; omega)).trans (heap_alloc_new w2 _)
  have c0 := (cell_of_row w3 w2.heap.size 0 _ _ _ hg)
  have c1 := (cell_of_row w3 w2.heap.size 1 _ _ _ hg)
  have c2 := (cell_of_row w3 w2.heap.size 2 _ _ _ hg)
  clear hb3 hg
  go_wp2_with fail
  go_ret
  exact ⟨rfl, HB4.out⟩
end Go.Proofs.YtbpdbmjfnbpihaaDoor
