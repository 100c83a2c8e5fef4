/- Next of layer 35: its token (or error) hangs on the source and the place alone. -/
import Derived.Test.YtbpdbmjfnbpihaaDoorL7
import Derived.Test.YtbpdbmjfnbpihaaDoorL9
import Derived.Laws.Rows
namespace Go.Proofs.YtbpdbmjfnbpihaaDoor
open Go.RowKit

def NextIs (s : ByteArray) (i : Nat) (kind : Int) (en : Nat) : Prop := ∀ w : World, Calls Tryd.prog 17 #[.string s, .int .i64 i] w fun e w' =>
  e = .returned (.tuple #[.agg #[.int .i64 kind, .string (s.extract i en), .int .i64 i], .int .i64 0]) ∧ Below w.heap.size w w'
def NextErr (s : ByteArray) (i : Nat) (er : Int) : Prop := ∀ w : World, Calls Tryd.prog 17 #[.string s, .int .i64 i] w fun e w' =>
  e = .returned (.tuple #[.agg #[.int .i64 0, .string ⟨#[]⟩, .int .i64 0], .int .i64 er]) ∧ Below w.heap.size w w'
theorem clone33 (s : ByteArray) (w : World) (hs : s.size ≤ 1099511627776) : Calls Tryd.prog 33 #[.string s] w fun e w' => e = .returned (.string s) ∧ Below w.heap.size w w' := by
  go_enter Tryd.func33, Tryd.ntmps33
  go_wp2_with fail
  refine (Tryd.stringslite_Clone s w (by omega)).mono ?_
  rintro e w1 ⟨rfl, hb⟩
  have HB := Lib.hid hb
  clear hb
  go_wp2_with fail
  go_ret
  exact ⟨rfl, HB.out⟩
theorem results_cell_row2 {P : Program} {fn : Func} {p u : Tmp} {ty : TypeId} (h : fn.results = #[.cell p ty, .tmp u]) (tmps : Array Value) (w : World) (g : Nat) (t : TypeId) (cs : Array Value) (fr : Nat × Nat) (d : TypeDesc)
    (hp : tmps.getD p undef = .pointer (some ⟨g, 0, none⟩)) (hg : w.heap[g]? = some (.cells cs t fr))
    (hu : P.underlying ty = some d) (hd : (match d with | .struct _ | .array _ _ => true | _ => false) = true) (hi : (P.info? ty).map (·.size) = some cs.size) :
    (results fn tmps).run P w = .ok (.tuple #[.agg cs, tmps.getD u undef]) w := by
  have hp' : tmps[p]?.getD undef = .pointer (some ⟨g, 0, none⟩) := by simpa using hp
  simp [results, h, hp', asAddr, run_loadVar_row w g t ty cs fr d hg hu hd hi]
theorem size33 : (Tryd.prog.info? 33).map (·.size) = some 3 := by kernel_rfl
def Zt : Array Value := #[.int .i64 0, .string ⟨#[]⟩, .int .i64 0]
theorem set3 {w : World} {g : Nat} {a b c x y z : Value} {t : TypeId} (h : w.heap[g]? = some (.cells #[a, b, c] t (0, 0))) :
    (((w.setCell ⟨g, 0, none⟩ x).setCell ⟨g, 1, none⟩ y).setCell ⟨g, 2, none⟩ z).heap[g]? = some (.cells #[x, y, z] t (0, 0)) :=
  heap_setCell_same _ g 2 _ t z (heap_setCell_same _ g 1 _ t y (heap_setCell_same _ g 0 _ t x h))
theorem zero_at {w w1 : World} (hb : Below (w.alloc (.cells #[.int .i64 0, .string ⟨#[]⟩, .int .i64 0] 33)).heap.size (w.alloc (.cells #[.int .i64 0, .string ⟨#[]⟩, .int .i64 0] 33)) w1) :
    w1.heap[w.heap.size]? = some (.cells #[.int .i64 0, .string ⟨#[]⟩, .int .i64 0] 33 (0, 0)) :=
  (hb.block w.heap.size (by rw [World.size_alloc]; omega)).trans (heap_alloc_new w _)
theorem prefix_crlf' (s : ByteArray) (n : Nat) (w : World) :
    Calls Tryd.prog 25 #[.string (s.extract n s.size), .string ⟨#[13, 10]⟩] w fun e w' => e = .returned (.bool (preAt s n [13, 10])) ∧ w = w' := (prefix_crlf s n w).mono fun _ _ h => ⟨h.1, h.2.symm⟩
theorem comment26m (s : ByteArray) (i : Nat) (w : World) (hs : s.size ≤ 1099511627776) (hi : i ≤ s.size) :
    Calls Tryd.prog 26 #[.string s, .int .i64 i] w fun e w' => e = .returned (.int .i64 (comEnd s i : Int)) ∧ w = w' := comment26 s i w (by unfold maxLen; omega) hi
theorem number29m (s : ByteArray) (i : Nat) (w : World) (hs : s.size ≤ 1099511627776) (hi : i < s.size) :
    Calls Tryd.prog 29 #[.string s, .int .i64 i] w fun e w' => e = .returned (.int .i64 (numC s (numB s (numA s i)) : Int)) ∧ w = w' := number29 s i w (by unfold maxLen; omega) hi
theorem word31m (s : ByteArray) (i : Nat) (w : World) (hs : s.size ≤ 1099511627776) (hi : i < s.size) :
    Calls Tryd.prog 31 #[.string s, .int .i64 i] w fun e w' => e = .returned (.int .i64 (wordEnd s i : Int)) ∧ w = w' := word31 s i w (by unfold maxLen; omega) hi
set_option maxRecDepth 8000 in
set_option maxHeartbeats 1600000 in
theorem next_line (s : ByteArray) (i : Nat) (hs : s.size ≤ 1099511627776) (hi : i < s.size) (q1 : (byteI s i == 32) = false) (q2 : (byteI s i == 9) = false) (hc : byteI s i = 10) : NextIs s i 2 (i + 1) := by
  intro w
  have hb := byteI_eq hi
  have H0 := Lib.hid (belowBox w (.cells #[.int .i64 0, .string ⟨#[]⟩, .int .i64 0] 33))
  have q1 := q1
  have q2 := q2
  have q3 : (byteI s i == 10) = true := by simp [hc]
  go_enter Tryd.func17, Tryd.ntmps17
  go_wp2_with (first
    | (go_at_call 25; refine (prefix_crlf' _ _ _).mono ?_; rintro e w' ⟨rfl, rfl⟩)
    | (go_at_call 26; refine (comment26m _ _ _ hs (by omega)).mono ?_; rintro e w' ⟨rfl, rfl⟩)
    | (go_at_call 28; refine (digit28 _ _).mono ?_; rintro e w' ⟨rfl, rfl⟩)
    | (go_at_call 30; refine (letter30 _ _).mono ?_; rintro e w' ⟨rfl, rfl⟩)
    | (go_at_call 29; refine (number29m _ _ _ hs hi).mono ?_; rintro e w' ⟨rfl, rfl⟩)
    | (go_at_call 31; refine (word31m _ _ _ hs hi).mono ?_; rintro e w' ⟨rfl, rfl⟩)
    | (go_at_call 32; refine (punct32 _ _ _ hs hi).mono ?_; rintro e w' ⟨rfl, rfl⟩))
  refine (clone33 _ _ (by rw [ByteArray.size_extract]; omega)).mono ?_
  rintro e w1 ⟨rfl, hb1⟩
  have HG := Lib.hid (zero_at hb1)
  have c0 := (cell_of_row w1 w.heap.size 0 _ _ _ HG.out)
  have c1 := (cell_of_row w1 w.heap.size 1 _ _ _ HG.out)
  have c2 := (cell_of_row w1 w.heap.size 2 _ _ _ HG.out)
  have f0 := (frozen_of_row w1 w.heap.size 0 _ _ HG.out)
  have f1 := (frozen_of_row w1 w.heap.size 1 _ _ HG.out)
  have f2 := (frozen_of_row w1 w.heap.size 2 _ _ HG.out)
  have HB := Lib.hid (show Below w.heap.size w w1 from belowThen H0.out hb1)
  clear hb1
  go_wp2_with fail
  (try simp only [Exit.inBlock, Exit.then])
  refine bodyPost_ret (results_cell_row2 rfl _ _ w.heap.size 33 _ (0, 0) _ rfl (set3 HG.out) Tryd.underlying33 rfl size33) rfl ?_
  exact ⟨rfl, ((HB.out.setCell (Nat.le_refl _) _).setCell (Nat.le_refl _) _).setCell (Nat.le_refl _) _⟩
set_option maxRecDepth 8000 in
set_option maxHeartbeats 1600000 in
theorem next_crlf (s : ByteArray) (i : Nat) (hs : s.size ≤ 1099511627776) (hi : i < s.size) (q1 : (byteI s i == 32) = false) (q2 : (byteI s i == 9) = false) (q3 : (byteI s i == 10) = false) (hc : preAt s i [13, 10] = true) : NextIs s i 2 (i + 2) := by
  intro w
  have hb := byteI_eq hi
  have H0 := Lib.hid (belowBox w (.cells #[.int .i64 0, .string ⟨#[]⟩, .int .i64 0] 33))
  have q1 := q1
  have q2 := q2
  have q3 := q3
  have hsz := preAt_lt (by omega) hc
  simp only [List.length_cons, List.length_nil] at hsz
  go_enter Tryd.func17, Tryd.ntmps17
  go_wp2_with (first
    | (go_at_call 25; refine (prefix_crlf' _ _ _).mono ?_; rintro e w' ⟨rfl, rfl⟩)
    | (go_at_call 26; refine (comment26m _ _ _ hs (by omega)).mono ?_; rintro e w' ⟨rfl, rfl⟩)
    | (go_at_call 28; refine (digit28 _ _).mono ?_; rintro e w' ⟨rfl, rfl⟩)
    | (go_at_call 30; refine (letter30 _ _).mono ?_; rintro e w' ⟨rfl, rfl⟩)
    | (go_at_call 29; refine (number29m _ _ _ hs hi).mono ?_; rintro e w' ⟨rfl, rfl⟩)
    | (go_at_call 31; refine (word31m _ _ _ hs hi).mono ?_; rintro e w' ⟨rfl, rfl⟩)
    | (go_at_call 32; refine (punct32 _ _ _ hs hi).mono ?_; rintro e w' ⟨rfl, rfl⟩))
  refine (clone33 _ _ (by rw [ByteArray.size_extract]; omega)).mono ?_
  rintro e w1 ⟨rfl, hb1⟩
  have HG := Lib.hid (zero_at hb1)
  have c0 := (cell_of_row w1 w.heap.size 0 _ _ _ HG.out)
  have c1 := (cell_of_row w1 w.heap.size 1 _ _ _ HG.out)
  have c2 := (cell_of_row w1 w.heap.size 2 _ _ _ HG.out)
  have f0 := (frozen_of_row w1 w.heap.size 0 _ _ HG.out)
  have f1 := (frozen_of_row w1 w.heap.size 1 _ _ HG.out)
  have f2 := (frozen_of_row w1 w.heap.size 2 _ _ HG.out)
  have HB := Lib.hid (show Below w.heap.size w w1 from belowThen H0.out hb1)
  clear hb1
  go_wp2_with fail
  (try simp only [Exit.inBlock, Exit.then])
  refine bodyPost_ret (results_cell_row2 rfl _ _ w.heap.size 33 _ (0, 0) _ rfl (set3 HG.out) Tryd.underlying33 rfl size33) rfl ?_
  exact ⟨rfl, ((HB.out.setCell (Nat.le_refl _) _).setCell (Nat.le_refl _) _).setCell (Nat.le_refl _) _⟩
set_option maxRecDepth 8000 in
set_option maxHeartbeats 1600000 in
theorem next_comment_e (s : ByteArray) (i : Nat) (hs : s.size ≤ 1099511627776) (hi : i < s.size) (q1 : (byteI s i == 32) = false) (q2 : (byteI s i == 9) = false) (q3 : (byteI s i == 10) = false) (q4 : preAt s i [13, 10] = false) (hc : byteI s i = 35) (he : comEnd s i = i) : NextErr s i 3 := by
  intro w
  have hb := byteI_eq hi
  have H0 := Lib.hid (belowBox w (.cells #[.int .i64 0, .string ⟨#[]⟩, .int .i64 0] 33))
  have q1 := q1
  have q2 := q2
  have q3 := q3
  have q4 := q4
  have q5 : (byteI s i == 35) = true := by simp [hc]
  have hle := comEnd_le s i (by omega)
  have hge := le_comEnd s i
  have qe : ((comEnd s i : Nat) : Int) = i := by omega
  go_enter Tryd.func17, Tryd.ntmps17
  go_wp2_with (first
    | (go_at_call 25; refine (prefix_crlf' _ _ _).mono ?_; rintro e w' ⟨rfl, rfl⟩)
    | (go_at_call 26; refine (comment26m _ _ _ hs (by omega)).mono ?_; rintro e w' ⟨rfl, rfl⟩)
    | (go_at_call 28; refine (digit28 _ _).mono ?_; rintro e w' ⟨rfl, rfl⟩)
    | (go_at_call 30; refine (letter30 _ _).mono ?_; rintro e w' ⟨rfl, rfl⟩)
    | (go_at_call 29; refine (number29m _ _ _ hs hi).mono ?_; rintro e w' ⟨rfl, rfl⟩)
    | (go_at_call 31; refine (word31m _ _ _ hs hi).mono ?_; rintro e w' ⟨rfl, rfl⟩)
    | (go_at_call 32; refine (punct32 _ _ _ hs hi).mono ?_; rintro e w' ⟨rfl, rfl⟩))
  (try simp only [Exit.inBlock, Exit.then])
  refine bodyPost_ret (results_cell_row2 rfl _ _ w.heap.size 33 _ (0, 0) _ rfl (heap_alloc_new w _) Tryd.underlying33 rfl size33) rfl ?_
  exact ⟨rfl, belowBox w _⟩
set_option maxRecDepth 8000 in
set_option maxHeartbeats 1600000 in
theorem next_comment_o (s : ByteArray) (i : Nat) (hs : s.size ≤ 1099511627776) (hi : i < s.size) (q1 : (byteI s i == 32) = false) (q2 : (byteI s i == 9) = false) (q3 : (byteI s i == 10) = false) (q4 : preAt s i [13, 10] = false) (hc : byteI s i = 35) (he : ¬ comEnd s i = i) : NextIs s i 3 (comEnd s i) := by
  intro w
  have hb := byteI_eq hi
  have H0 := Lib.hid (belowBox w (.cells #[.int .i64 0, .string ⟨#[]⟩, .int .i64 0] 33))
  have q1 := q1
  have q2 := q2
  have q3 := q3
  have q4 := q4
  have q5 : (byteI s i == 35) = true := by simp [hc]
  have hle := comEnd_le s i (by omega)
  have hge := le_comEnd s i
  have qe : (((comEnd s i : Nat) : Int) == (i : Int)) = false := by simp; omega
  go_enter Tryd.func17, Tryd.ntmps17
  go_wp2_with (first
    | (go_at_call 25; refine (prefix_crlf' _ _ _).mono ?_; rintro e w' ⟨rfl, rfl⟩)
    | (go_at_call 26; refine (comment26m _ _ _ hs (by omega)).mono ?_; rintro e w' ⟨rfl, rfl⟩)
    | (go_at_call 28; refine (digit28 _ _).mono ?_; rintro e w' ⟨rfl, rfl⟩)
    | (go_at_call 30; refine (letter30 _ _).mono ?_; rintro e w' ⟨rfl, rfl⟩)
    | (go_at_call 29; refine (number29m _ _ _ hs hi).mono ?_; rintro e w' ⟨rfl, rfl⟩)
    | (go_at_call 31; refine (word31m _ _ _ hs hi).mono ?_; rintro e w' ⟨rfl, rfl⟩)
    | (go_at_call 32; refine (punct32 _ _ _ hs hi).mono ?_; rintro e w' ⟨rfl, rfl⟩))
  refine (clone33 _ _ (by rw [ByteArray.size_extract]; omega)).mono ?_
  rintro e w1 ⟨rfl, hb1⟩
  have HG := Lib.hid (zero_at hb1)
  have c0 := (cell_of_row w1 w.heap.size 0 _ _ _ HG.out)
  have c1 := (cell_of_row w1 w.heap.size 1 _ _ _ HG.out)
  have c2 := (cell_of_row w1 w.heap.size 2 _ _ _ HG.out)
  have f0 := (frozen_of_row w1 w.heap.size 0 _ _ HG.out)
  have f1 := (frozen_of_row w1 w.heap.size 1 _ _ HG.out)
  have f2 := (frozen_of_row w1 w.heap.size 2 _ _ HG.out)
  have HB := Lib.hid (show Below w.heap.size w w1 from belowThen H0.out hb1)
  clear hb1
  go_wp2_with fail
  (try simp only [Exit.inBlock, Exit.then])
  refine bodyPost_ret (results_cell_row2 rfl _ _ w.heap.size 33 _ (0, 0) _ rfl (set3 HG.out) Tryd.underlying33 rfl size33) rfl ?_
  exact ⟨rfl, ((HB.out.setCell (Nat.le_refl _) _).setCell (Nat.le_refl _) _).setCell (Nat.le_refl _) _⟩
theorem number29n (s : ByteArray) (i n : Nat) (w : World) (hs : s.size ≤ 1099511627776) (hi : i < s.size) (hn : numC s (numB s (numA s i)) = n) :
    Calls Tryd.prog 29 #[.string s, .int .i64 i] w fun e w' => e = .returned (.int .i64 (n : Int)) ∧ w = w' := hn ▸ number29m s i w hs hi
def spB (s : ByteArray) (n : Nat) : Bool := decide (byteI s n = 32 ∨ byteI s n = 9)
def spEnd (s : ByteArray) (i : Nat) : Nat := skipTo (spB s) (s.size - i) i
theorem spEnd_le {s : ByteArray} {i : Nat} (h : i < s.size) (hc : byteI s i = 32 ∨ byteI s i = 9) : i < spEnd s i ∧ spEnd s i ≤ s.size := by
  have h1 : spEnd s i = spEnd s (i + 1) := skipTo_go h (by simpa [spB] using hc)
  have h2 : i + 1 ≤ spEnd s (i + 1) := le_skipTo _ _ _
  have h3 := skipTo_le (spB s) (s.size - i) i
  exact ⟨by omega, by unfold spEnd; omega⟩
set_option maxRecDepth 8000 in
set_option maxHeartbeats 1600000 in
theorem next_num_bad1 (s : ByteArray) (i n : Nat) (hs : s.size ≤ 1099511627776) (hi : i < s.size) (q1 : (byteI s i == 32) = false) (q2 : (byteI s i == 9) = false) (q3 : (byteI s i == 10) = false) (q4 : preAt s i [13, 10] = false) (q5 : (byteI s i == 35) = false) (q6 : (byteI s i == 34) = false) (hc : digitB (byteI s i) = true) (hn : numC s (numB s (numA s i)) = n) (hlt : n < s.size) (hl : letterB (byteI s n) = true) : NextErr s i 3 := by
  intro w
  have hb := byteI_eq hi
  have H0 := Lib.hid (belowBox w (.cells #[.int .i64 0, .string ⟨#[]⟩, .int .i64 0] 33))
  have q1 := q1
  have q2 := q2
  have q3 := q3
  have q4 := q4
  have q5 := q5
  have q6 := q6
  have hc := hc
  have hbn := byteI_eq hlt
  have hl := hl
  go_enter Tryd.func17, Tryd.ntmps17
  go_wp2_with (first
    | (go_at_call 25; refine (prefix_crlf' _ _ _).mono ?_; rintro e w' ⟨rfl, rfl⟩)
    | (go_at_call 26; refine (comment26m _ _ _ hs (by omega)).mono ?_; rintro e w' ⟨rfl, rfl⟩)
    | (go_at_call 28; refine (digit28 _ _).mono ?_; rintro e w' ⟨rfl, rfl⟩)
    | (go_at_call 30; refine (letter30 _ _).mono ?_; rintro e w' ⟨rfl, rfl⟩)
    | (go_at_call 29; refine (number29n _ _ _ _ hs hi hn).mono ?_; rintro e w' ⟨rfl, rfl⟩)
    | (go_at_call 31; refine (word31m _ _ _ hs hi).mono ?_; rintro e w' ⟨rfl, rfl⟩)
    | (go_at_call 32; refine (punct32 _ _ _ hs hi).mono ?_; rintro e w' ⟨rfl, rfl⟩))
  (try simp only [Exit.inBlock, Exit.then])
  refine bodyPost_ret (results_cell_row2 rfl _ _ w.heap.size 33 _ (0, 0) _ rfl (heap_alloc_new w _) Tryd.underlying33 rfl size33) rfl ?_
  exact ⟨rfl, belowBox w _⟩
set_option maxRecDepth 8000 in
set_option maxHeartbeats 1600000 in
theorem next_num_bad2 (s : ByteArray) (i n : Nat) (hs : s.size ≤ 1099511627776) (hi : i < s.size) (q1 : (byteI s i == 32) = false) (q2 : (byteI s i == 9) = false) (q3 : (byteI s i == 10) = false) (q4 : preAt s i [13, 10] = false) (q5 : (byteI s i == 35) = false) (q6 : (byteI s i == 34) = false) (hc : digitB (byteI s i) = true) (hn : numC s (numB s (numA s i)) = n) (hlt : n < s.size) (hl : letterB (byteI s n) = false) (hd : digitB (byteI s n) = true) : NextErr s i 3 := by
  intro w
  have hb := byteI_eq hi
  have H0 := Lib.hid (belowBox w (.cells #[.int .i64 0, .string ⟨#[]⟩, .int .i64 0] 33))
  have q1 := q1
  have q2 := q2
  have q3 := q3
  have q4 := q4
  have q5 := q5
  have q6 := q6
  have hc := hc
  have hbn := byteI_eq hlt
  have hl := hl
  have hd := hd
  go_enter Tryd.func17, Tryd.ntmps17
  go_wp2_with (first
    | (go_at_call 25; refine (prefix_crlf' _ _ _).mono ?_; rintro e w' ⟨rfl, rfl⟩)
    | (go_at_call 26; refine (comment26m _ _ _ hs (by omega)).mono ?_; rintro e w' ⟨rfl, rfl⟩)
    | (go_at_call 28; refine (digit28 _ _).mono ?_; rintro e w' ⟨rfl, rfl⟩)
    | (go_at_call 30; refine (letter30 _ _).mono ?_; rintro e w' ⟨rfl, rfl⟩)
    | (go_at_call 29; refine (number29n _ _ _ _ hs hi hn).mono ?_; rintro e w' ⟨rfl, rfl⟩)
    | (go_at_call 31; refine (word31m _ _ _ hs hi).mono ?_; rintro e w' ⟨rfl, rfl⟩)
    | (go_at_call 32; refine (punct32 _ _ _ hs hi).mono ?_; rintro e w' ⟨rfl, rfl⟩))
  (try simp only [Exit.inBlock, Exit.then])
  refine bodyPost_ret (results_cell_row2 rfl _ _ w.heap.size 33 _ (0, 0) _ rfl (heap_alloc_new w _) Tryd.underlying33 rfl size33) rfl ?_
  exact ⟨rfl, belowBox w _⟩
set_option maxRecDepth 8000 in
set_option maxHeartbeats 1600000 in
theorem next_num_o1 (s : ByteArray) (i n : Nat) (hs : s.size ≤ 1099511627776) (hi : i < s.size) (q1 : (byteI s i == 32) = false) (q2 : (byteI s i == 9) = false) (q3 : (byteI s i == 10) = false) (q4 : preAt s i [13, 10] = false) (q5 : (byteI s i == 35) = false) (q6 : (byteI s i == 34) = false) (hc : digitB (byteI s i) = true) (hn : numC s (numB s (numA s i)) = n) (hlt : n < s.size) (hl : letterB (byteI s n) = false) (hd : digitB (byteI s n) = false) (he : ¬ n = i) : NextIs s i 6 n := by
  intro w
  have hb := byteI_eq hi
  have H0 := Lib.hid (belowBox w (.cells #[.int .i64 0, .string ⟨#[]⟩, .int .i64 0] 33))
  have q1 := q1
  have q2 := q2
  have q3 := q3
  have q4 := q4
  have q5 := q5
  have q6 := q6
  have hc := hc
  have hbn := byteI_eq hlt
  have hl := hl
  have hd := hd
  have qe : ((n : Int) == (i : Int)) = false := by simp; omega
  have hle : i ≤ n := by rw [← hn]; exact Nat.le_trans (numA_le hi).2 (Nat.le_trans (numB_le (numA_le hi).1).2 (numC_le (numB_le (numA_le hi).1).1).2)
  go_enter Tryd.func17, Tryd.ntmps17
  go_wp2_with (first
    | (go_at_call 25; refine (prefix_crlf' _ _ _).mono ?_; rintro e w' ⟨rfl, rfl⟩)
    | (go_at_call 26; refine (comment26m _ _ _ hs (by omega)).mono ?_; rintro e w' ⟨rfl, rfl⟩)
    | (go_at_call 28; refine (digit28 _ _).mono ?_; rintro e w' ⟨rfl, rfl⟩)
    | (go_at_call 30; refine (letter30 _ _).mono ?_; rintro e w' ⟨rfl, rfl⟩)
    | (go_at_call 29; refine (number29n _ _ _ _ hs hi hn).mono ?_; rintro e w' ⟨rfl, rfl⟩)
    | (go_at_call 31; refine (word31m _ _ _ hs hi).mono ?_; rintro e w' ⟨rfl, rfl⟩)
    | (go_at_call 32; refine (punct32 _ _ _ hs hi).mono ?_; rintro e w' ⟨rfl, rfl⟩))
  refine (clone33 _ _ (by rw [ByteArray.size_extract]; omega)).mono ?_
  rintro e w1 ⟨rfl, hb1⟩
  have HG := Lib.hid (zero_at hb1)
  have c0 := (cell_of_row w1 w.heap.size 0 _ _ _ HG.out)
  have c1 := (cell_of_row w1 w.heap.size 1 _ _ _ HG.out)
  have c2 := (cell_of_row w1 w.heap.size 2 _ _ _ HG.out)
  have f0 := (frozen_of_row w1 w.heap.size 0 _ _ HG.out)
  have f1 := (frozen_of_row w1 w.heap.size 1 _ _ HG.out)
  have f2 := (frozen_of_row w1 w.heap.size 2 _ _ HG.out)
  have HB := Lib.hid (show Below w.heap.size w w1 from belowThen H0.out hb1)
  clear hb1
  go_wp2_with fail
  (try simp only [Exit.inBlock, Exit.then])
  refine bodyPost_ret (results_cell_row2 rfl _ _ w.heap.size 33 _ (0, 0) _ rfl (set3 HG.out) Tryd.underlying33 rfl size33) rfl ?_
  exact ⟨rfl, ((HB.out.setCell (Nat.le_refl _) _).setCell (Nat.le_refl _) _).setCell (Nat.le_refl _) _⟩
set_option maxRecDepth 8000 in
set_option maxHeartbeats 1600000 in
theorem next_num_o2 (s : ByteArray) (i n : Nat) (hs : s.size ≤ 1099511627776) (hi : i < s.size) (q1 : (byteI s i == 32) = false) (q2 : (byteI s i == 9) = false) (q3 : (byteI s i == 10) = false) (q4 : preAt s i [13, 10] = false) (q5 : (byteI s i == 35) = false) (q6 : (byteI s i == 34) = false) (hc : digitB (byteI s i) = true) (hn : numC s (numB s (numA s i)) = n) (hge : ¬ n < s.size) (hle : n ≤ s.size) : NextIs s i 6 n := by
  intro w
  have hb := byteI_eq hi
  have H0 := Lib.hid (belowBox w (.cells #[.int .i64 0, .string ⟨#[]⟩, .int .i64 0] 33))
  have q1 := q1
  have q2 := q2
  have q3 := q3
  have q4 := q4
  have q5 := q5
  have q6 := q6
  have hc := hc
  have he : ¬ n = i := by omega
  have qe : ((n : Int) == (i : Int)) = false := by simp; omega
  have hle := hle
  go_enter Tryd.func17, Tryd.ntmps17
  go_wp2_with (first
    | (go_at_call 25; refine (prefix_crlf' _ _ _).mono ?_; rintro e w' ⟨rfl, rfl⟩)
    | (go_at_call 26; refine (comment26m _ _ _ hs (by omega)).mono ?_; rintro e w' ⟨rfl, rfl⟩)
    | (go_at_call 28; refine (digit28 _ _).mono ?_; rintro e w' ⟨rfl, rfl⟩)
    | (go_at_call 30; refine (letter30 _ _).mono ?_; rintro e w' ⟨rfl, rfl⟩)
    | (go_at_call 29; refine (number29n _ _ _ _ hs hi hn).mono ?_; rintro e w' ⟨rfl, rfl⟩)
    | (go_at_call 31; refine (word31m _ _ _ hs hi).mono ?_; rintro e w' ⟨rfl, rfl⟩)
    | (go_at_call 32; refine (punct32 _ _ _ hs hi).mono ?_; rintro e w' ⟨rfl, rfl⟩))
  refine (clone33 _ _ (by rw [ByteArray.size_extract]; omega)).mono ?_
  rintro e w1 ⟨rfl, hb1⟩
  have HG := Lib.hid (zero_at hb1)
  have c0 := (cell_of_row w1 w.heap.size 0 _ _ _ HG.out)
  have c1 := (cell_of_row w1 w.heap.size 1 _ _ _ HG.out)
  have c2 := (cell_of_row w1 w.heap.size 2 _ _ _ HG.out)
  have f0 := (frozen_of_row w1 w.heap.size 0 _ _ HG.out)
  have f1 := (frozen_of_row w1 w.heap.size 1 _ _ HG.out)
  have f2 := (frozen_of_row w1 w.heap.size 2 _ _ HG.out)
  have HB := Lib.hid (show Below w.heap.size w w1 from belowThen H0.out hb1)
  clear hb1
  go_wp2_with fail
  (try simp only [Exit.inBlock, Exit.then])
  refine bodyPost_ret (results_cell_row2 rfl _ _ w.heap.size 33 _ (0, 0) _ rfl (set3 HG.out) Tryd.underlying33 rfl size33) rfl ?_
  exact ⟨rfl, ((HB.out.setCell (Nat.le_refl _) _).setCell (Nat.le_refl _) _).setCell (Nat.le_refl _) _⟩
set_option maxRecDepth 8000 in
set_option maxHeartbeats 1600000 in
theorem next_word (s : ByteArray) (i : Nat) (hs : s.size ≤ 1099511627776) (hi : i < s.size) (q1 : (byteI s i == 32) = false) (q2 : (byteI s i == 9) = false) (q3 : (byteI s i == 10) = false) (q4 : preAt s i [13, 10] = false) (q5 : (byteI s i == 35) = false) (q6 : (byteI s i == 34) = false) (q7 : digitB (byteI s i) = false) (hw : i < wordEnd s i) : NextIs s i 6 (wordEnd s i) := by
  intro w
  have hb := byteI_eq hi
  have H0 := Lib.hid (belowBox w (.cells #[.int .i64 0, .string ⟨#[]⟩, .int .i64 0] 33))
  have q1 := q1
  have q2 := q2
  have q3 := q3
  have q4 := q4
  have q5 := q5
  have q6 := q6
  have q7 := q7
  have hw := hw
  have hle := (wordEnd_le hi).1
  have qe : ((wordEnd s i : Int) == (i : Int)) = false := by simp; omega
  go_enter Tryd.func17, Tryd.ntmps17
  go_wp2_with (first
    | (go_at_call 25; refine (prefix_crlf' _ _ _).mono ?_; rintro e w' ⟨rfl, rfl⟩)
    | (go_at_call 26; refine (comment26m _ _ _ hs (by omega)).mono ?_; rintro e w' ⟨rfl, rfl⟩)
    | (go_at_call 28; refine (digit28 _ _).mono ?_; rintro e w' ⟨rfl, rfl⟩)
    | (go_at_call 30; refine (letter30 _ _).mono ?_; rintro e w' ⟨rfl, rfl⟩)
    | (go_at_call 29; refine (number29m _ _ _ hs hi).mono ?_; rintro e w' ⟨rfl, rfl⟩)
    | (go_at_call 31; refine (word31m _ _ _ hs hi).mono ?_; rintro e w' ⟨rfl, rfl⟩)
    | (go_at_call 32; refine (punct32 _ _ _ hs hi).mono ?_; rintro e w' ⟨rfl, rfl⟩))
  refine (clone33 _ _ (by rw [ByteArray.size_extract]; omega)).mono ?_
  rintro e w1 ⟨rfl, hb1⟩
  have HG := Lib.hid (zero_at hb1)
  have c0 := (cell_of_row w1 w.heap.size 0 _ _ _ HG.out)
  have c1 := (cell_of_row w1 w.heap.size 1 _ _ _ HG.out)
  have c2 := (cell_of_row w1 w.heap.size 2 _ _ _ HG.out)
  have f0 := (frozen_of_row w1 w.heap.size 0 _ _ HG.out)
  have f1 := (frozen_of_row w1 w.heap.size 1 _ _ HG.out)
  have f2 := (frozen_of_row w1 w.heap.size 2 _ _ HG.out)
  have HB := Lib.hid (show Below w.heap.size w w1 from belowThen H0.out hb1)
  clear hb1
  go_wp2_with fail
  (try simp only [Exit.inBlock, Exit.then])
  refine bodyPost_ret (results_cell_row2 rfl _ _ w.heap.size 33 _ (0, 0) _ rfl (set3 HG.out) Tryd.underlying33 rfl size33) rfl ?_
  exact ⟨rfl, ((HB.out.setCell (Nat.le_refl _) _).setCell (Nat.le_refl _) _).setCell (Nat.le_refl _) _⟩
set_option maxRecDepth 8000 in
set_option maxHeartbeats 1600000 in
theorem next_punct_e (s : ByteArray) (i : Nat) (hs : s.size ≤ 1099511627776) (hi : i < s.size) (q1 : (byteI s i == 32) = false) (q2 : (byteI s i == 9) = false) (q3 : (byteI s i == 10) = false) (q4 : preAt s i [13, 10] = false) (q5 : (byteI s i == 35) = false) (q6 : (byteI s i == 34) = false) (q7 : digitB (byteI s i) = false) (q8 : ¬ i < wordEnd s i) (he : punctN s i = 0) : NextErr s i 3 := by
  intro w
  have hb := byteI_eq hi
  have H0 := Lib.hid (belowBox w (.cells #[.int .i64 0, .string ⟨#[]⟩, .int .i64 0] 33))
  have q1 := q1
  have q2 := q2
  have q3 := q3
  have q4 := q4
  have q5 := q5
  have q6 := q6
  have q7 := q7
  have q8 := q8
  have hle := punctN_le hi
  have he := he
  go_enter Tryd.func17, Tryd.ntmps17
  go_wp2_with (first
    | (go_at_call 25; refine (prefix_crlf' _ _ _).mono ?_; rintro e w' ⟨rfl, rfl⟩)
    | (go_at_call 26; refine (comment26m _ _ _ hs (by omega)).mono ?_; rintro e w' ⟨rfl, rfl⟩)
    | (go_at_call 28; refine (digit28 _ _).mono ?_; rintro e w' ⟨rfl, rfl⟩)
    | (go_at_call 30; refine (letter30 _ _).mono ?_; rintro e w' ⟨rfl, rfl⟩)
    | (go_at_call 29; refine (number29m _ _ _ hs hi).mono ?_; rintro e w' ⟨rfl, rfl⟩)
    | (go_at_call 31; refine (word31m _ _ _ hs hi).mono ?_; rintro e w' ⟨rfl, rfl⟩)
    | (go_at_call 32; refine (punct32 _ _ _ hs hi).mono ?_; rintro e w' ⟨rfl, rfl⟩))
  (try simp only [Exit.inBlock, Exit.then])
  refine bodyPost_ret (results_cell_row2 rfl _ _ w.heap.size 33 _ (0, 0) _ rfl (heap_alloc_new w _) Tryd.underlying33 rfl size33) rfl ?_
  exact ⟨rfl, belowBox w _⟩
set_option maxRecDepth 8000 in
set_option maxHeartbeats 1600000 in
theorem next_punct_o (s : ByteArray) (i : Nat) (hs : s.size ≤ 1099511627776) (hi : i < s.size) (q1 : (byteI s i == 32) = false) (q2 : (byteI s i == 9) = false) (q3 : (byteI s i == 10) = false) (q4 : preAt s i [13, 10] = false) (q5 : (byteI s i == 35) = false) (q6 : (byteI s i == 34) = false) (q7 : digitB (byteI s i) = false) (q8 : ¬ i < wordEnd s i) (he : 0 < punctN s i) : NextIs s i 4 (i + punctN s i) := by
  intro w
  have hb := byteI_eq hi
  have H0 := Lib.hid (belowBox w (.cells #[.int .i64 0, .string ⟨#[]⟩, .int .i64 0] 33))
  have q1 := q1
  have q2 := q2
  have q3 := q3
  have q4 := q4
  have q5 := q5
  have q6 := q6
  have q7 := q7
  have q8 := q8
  have hle := punctN_le hi
  have he := he
  have qe : (((i : Int) + punctN s i) == (i : Int)) = false := by simp; omega
  go_enter Tryd.func17, Tryd.ntmps17
  go_wp2_with (first
    | (go_at_call 25; refine (prefix_crlf' _ _ _).mono ?_; rintro e w' ⟨rfl, rfl⟩)
    | (go_at_call 26; refine (comment26m _ _ _ hs (by omega)).mono ?_; rintro e w' ⟨rfl, rfl⟩)
    | (go_at_call 28; refine (digit28 _ _).mono ?_; rintro e w' ⟨rfl, rfl⟩)
    | (go_at_call 30; refine (letter30 _ _).mono ?_; rintro e w' ⟨rfl, rfl⟩)
    | (go_at_call 29; refine (number29m _ _ _ hs hi).mono ?_; rintro e w' ⟨rfl, rfl⟩)
    | (go_at_call 31; refine (word31m _ _ _ hs hi).mono ?_; rintro e w' ⟨rfl, rfl⟩)
    | (go_at_call 32; refine (punct32 _ _ _ hs hi).mono ?_; rintro e w' ⟨rfl, rfl⟩))
  refine (clone33 _ _ (by rw [ByteArray.size_extract]; omega)).mono ?_
  rintro e w1 ⟨rfl, hb1⟩
  have HG := Lib.hid (zero_at hb1)
  have c0 := (cell_of_row w1 w.heap.size 0 _ _ _ HG.out)
  have c1 := (cell_of_row w1 w.heap.size 1 _ _ _ HG.out)
  have c2 := (cell_of_row w1 w.heap.size 2 _ _ _ HG.out)
  have f0 := (frozen_of_row w1 w.heap.size 0 _ _ HG.out)
  have f1 := (frozen_of_row w1 w.heap.size 1 _ _ HG.out)
  have f2 := (frozen_of_row w1 w.heap.size 2 _ _ HG.out)
  have HB := Lib.hid (show Below w.heap.size w w1 from belowThen H0.out hb1)
  clear hb1
  go_wp2_with fail
  (try simp only [Exit.inBlock, Exit.then])
  refine bodyPost_ret (results_cell_row2 rfl _ _ w.heap.size 33 _ (0, 0) _ rfl (set3 HG.out) Tryd.underlying33 rfl size33) rfl ?_
  exact ⟨rfl, ((HB.out.setCell (Nat.le_refl _) _).setCell (Nat.le_refl _) _).setCell (Nat.le_refl _) _⟩
set_option maxRecDepth 8000 in
set_option maxHeartbeats 1600000 in
theorem next_sp32 (s : ByteArray) (i : Nat) (hs : s.size ≤ 1099511627776) (hi : i < s.size) (hc : byteI s i = 32) : NextIs s i 1 (spEnd s i) := by
  intro w
  have hb := byteI_eq hi
  have H0 := Lib.hid (belowBox w (.cells #[.int .i64 0, .string ⟨#[]⟩, .int .i64 0] 33))
  have q1 : (byteI s i == 32) = true := by simp [hc]
  have hse := spEnd_le hi (by omega)
  have qe : ((spEnd s i : Int) == (i : Int)) = false := by simp; omega
  go_enter Tryd.func17, Tryd.ntmps17
  go_wp2_with fail
  go_simp
  go_loop [7] (fun t => ∃ n : Nat, i ≤ n ∧ n ≤ s.size ∧ t = .int .i64 n ∧ spEnd s n = spEnd s i) (fun t => s.size - (intOf t).toNat)
  case atStart => exact ⟨i, by omega, by omega, rfl, rfl⟩
  case round =>
    obtain ⟨n, hin, hn, rfl, hr⟩ := hrel
    have HR := Lib.hid hr
    clear hr
    by_cases hlt : n < s.size
    · have hbn := byteI_eq hlt
      by_cases h1 : byteI s n = 32
      · have HZ := Lib.hid (show spEnd s n = spEnd s (n + 1) from skipTo_go hlt (by simp [spB, h1]))
        go_wp2_with fail
        go_round
        case rel => exact ⟨n + 1, by omega, by omega, by go_num, by rw [← HR.out, HZ.out]⟩
        case measure => simp [intOf]; omega
      · have r1 : (byteI s n == 32) = false := by simp [h1]
        by_cases h2 : byteI s n = 9
        · have HZ := Lib.hid (show spEnd s n = spEnd s (n + 1) from skipTo_go hlt (by simp [spB, h2]))
          go_wp2_with fail
          go_round
          case rel => exact ⟨n + 1, by omega, by omega, by go_num, by rw [← HR.out, HZ.out]⟩
          case measure => simp [intOf]; omega
        · have r2 : (byteI s n == 9) = false := by simp [h2]
          have HZ : n = spEnd s i := by rw [← HR.out]; exact (show spEnd s n = n from skipTo_stop (by simp [spB, h1, h2])).symm
          have HZ2 := Lib.hid HZ
          have qn : ((n : Int) == (i : Int)) = false := by simp; omega
          clear HZ qe hse
          go_wp2_with fail
          refine (clone33 _ _ (by rw [ByteArray.size_extract]; omega)).mono ?_
          rintro e w1 ⟨rfl, hb1⟩
          have HG := Lib.hid (zero_at hb1)
          have c0 := (cell_of_row w1 w.heap.size 0 _ _ _ HG.out)
          have c1 := (cell_of_row w1 w.heap.size 1 _ _ _ HG.out)
          have c2 := (cell_of_row w1 w.heap.size 2 _ _ _ HG.out)
          have f0 := (frozen_of_row w1 w.heap.size 0 _ _ HG.out)
          have f1 := (frozen_of_row w1 w.heap.size 1 _ _ HG.out)
          have f2 := (frozen_of_row w1 w.heap.size 2 _ _ HG.out)
          have HB := Lib.hid (show Below w.heap.size w w1 from belowThen H0.out hb1)
          clear hb1
          go_wp2_with fail
          (try simp only [Exit.inBlock, Exit.then])
          refine bodyPost_ret (results_cell_row2 rfl _ _ w.heap.size 33 _ (0, 0) _ rfl (set3 HG.out) Tryd.underlying33 rfl size33) rfl ?_
          exact ⟨by rw [← HZ2.out]; rfl, ((HB.out.setCell (Nat.le_refl _) _).setCell (Nat.le_refl _) _).setCell (Nat.le_refl _) _⟩
    · have HZ2 := Lib.hid (show n = spEnd s i by rw [← HR.out]; exact (show spEnd s n = n from skipTo_end (by omega)).symm)
      have qn : ((n : Int) == (i : Int)) = false := by simp; omega
      clear qe hse
      go_wp2_with fail
      refine (clone33 _ _ (by rw [ByteArray.size_extract]; omega)).mono ?_
      rintro e w1 ⟨rfl, hb1⟩
      have HG := Lib.hid (zero_at hb1)
      have c0 := (cell_of_row w1 w.heap.size 0 _ _ _ HG.out)
      have c1 := (cell_of_row w1 w.heap.size 1 _ _ _ HG.out)
      have c2 := (cell_of_row w1 w.heap.size 2 _ _ _ HG.out)
      have f0 := (frozen_of_row w1 w.heap.size 0 _ _ HG.out)
      have f1 := (frozen_of_row w1 w.heap.size 1 _ _ HG.out)
      have f2 := (frozen_of_row w1 w.heap.size 2 _ _ HG.out)
      have HB := Lib.hid (show Below w.heap.size w w1 from belowThen H0.out hb1)
      clear hb1
      go_wp2_with fail
      (try simp only [Exit.inBlock, Exit.then])
      refine bodyPost_ret (results_cell_row2 rfl _ _ w.heap.size 33 _ (0, 0) _ rfl (set3 HG.out) Tryd.underlying33 rfl size33) rfl ?_
      exact ⟨by rw [← HZ2.out]; rfl, ((HB.out.setCell (Nat.le_refl _) _).setCell (Nat.le_refl _) _).setCell (Nat.le_refl _) _⟩
set_option maxRecDepth 8000 in
set_option maxHeartbeats 1600000 in
theorem next_sp9 (s : ByteArray) (i : Nat) (hs : s.size ≤ 1099511627776) (hi : i < s.size) (hc : byteI s i = 9) : NextIs s i 1 (spEnd s i) := by
  intro w
  have hb := byteI_eq hi
  have H0 := Lib.hid (belowBox w (.cells #[.int .i64 0, .string ⟨#[]⟩, .int .i64 0] 33))
  have q1 : (byteI s i == 32) = false := by simp [hc]
  have q2 : (byteI s i == 9) = true := by simp [hc]
  have hse := spEnd_le hi (by omega)
  have qe : ((spEnd s i : Int) == (i : Int)) = false := by simp; omega
  go_enter Tryd.func17, Tryd.ntmps17
  go_wp2_with fail
  go_simp
  go_loop [7] (fun t => ∃ n : Nat, i ≤ n ∧ n ≤ s.size ∧ t = .int .i64 n ∧ spEnd s n = spEnd s i) (fun t => s.size - (intOf t).toNat)
  case atStart => exact ⟨i, by omega, by omega, rfl, rfl⟩
  case round =>
    obtain ⟨n, hin, hn, rfl, hr⟩ := hrel
    have HR := Lib.hid hr
    clear hr
    by_cases hlt : n < s.size
    · have hbn := byteI_eq hlt
      by_cases h1 : byteI s n = 32
      · have HZ := Lib.hid (show spEnd s n = spEnd s (n + 1) from skipTo_go hlt (by simp [spB, h1]))
        go_wp2_with fail
        go_round
        case rel => exact ⟨n + 1, by omega, by omega, by go_num, by rw [← HR.out, HZ.out]⟩
        case measure => simp [intOf]; omega
      · have r1 : (byteI s n == 32) = false := by simp [h1]
        by_cases h2 : byteI s n = 9
        · have HZ := Lib.hid (show spEnd s n = spEnd s (n + 1) from skipTo_go hlt (by simp [spB, h2]))
          go_wp2_with fail
          go_round
          case rel => exact ⟨n + 1, by omega, by omega, by go_num, by rw [← HR.out, HZ.out]⟩
          case measure => simp [intOf]; omega
        · have r2 : (byteI s n == 9) = false := by simp [h2]
          have HZ : n = spEnd s i := by rw [← HR.out]; exact (show spEnd s n = n from skipTo_stop (by simp [spB, h1, h2])).symm
          have HZ2 := Lib.hid HZ
          have qn : ((n : Int) == (i : Int)) = false := by simp; omega
          clear HZ qe hse
          go_wp2_with fail
          refine (clone33 _ _ (by rw [ByteArray.size_extract]; omega)).mono ?_
          rintro e w1 ⟨rfl, hb1⟩
          have HG := Lib.hid (zero_at hb1)
          have c0 := (cell_of_row w1 w.heap.size 0 _ _ _ HG.out)
          have c1 := (cell_of_row w1 w.heap.size 1 _ _ _ HG.out)
          have c2 := (cell_of_row w1 w.heap.size 2 _ _ _ HG.out)
          have f0 := (frozen_of_row w1 w.heap.size 0 _ _ HG.out)
          have f1 := (frozen_of_row w1 w.heap.size 1 _ _ HG.out)
          have f2 := (frozen_of_row w1 w.heap.size 2 _ _ HG.out)
          have HB := Lib.hid (show Below w.heap.size w w1 from belowThen H0.out hb1)
          clear hb1
          go_wp2_with fail
          (try simp only [Exit.inBlock, Exit.then])
          refine bodyPost_ret (results_cell_row2 rfl _ _ w.heap.size 33 _ (0, 0) _ rfl (set3 HG.out) Tryd.underlying33 rfl size33) rfl ?_
          exact ⟨by rw [← HZ2.out]; rfl, ((HB.out.setCell (Nat.le_refl _) _).setCell (Nat.le_refl _) _).setCell (Nat.le_refl _) _⟩
    · have HZ2 := Lib.hid (show n = spEnd s i by rw [← HR.out]; exact (show spEnd s n = n from skipTo_end (by omega)).symm)
      have qn : ((n : Int) == (i : Int)) = false := by simp; omega
      clear qe hse
      go_wp2_with fail
      refine (clone33 _ _ (by rw [ByteArray.size_extract]; omega)).mono ?_
      rintro e w1 ⟨rfl, hb1⟩
      have HG := Lib.hid (zero_at hb1)
      have c0 := (cell_of_row w1 w.heap.size 0 _ _ _ HG.out)
      have c1 := (cell_of_row w1 w.heap.size 1 _ _ _ HG.out)
      have c2 := (cell_of_row w1 w.heap.size 2 _ _ _ HG.out)
      have f0 := (frozen_of_row w1 w.heap.size 0 _ _ HG.out)
      have f1 := (frozen_of_row w1 w.heap.size 1 _ _ HG.out)
      have f2 := (frozen_of_row w1 w.heap.size 2 _ _ HG.out)
      have HB := Lib.hid (show Below w.heap.size w w1 from belowThen H0.out hb1)
      clear hb1
      go_wp2_with fail
      (try simp only [Exit.inBlock, Exit.then])
      refine bodyPost_ret (results_cell_row2 rfl _ _ w.heap.size 33 _ (0, 0) _ rfl (set3 HG.out) Tryd.underlying33 rfl size33) rfl ?_
      exact ⟨by rw [← HZ2.out]; rfl, ((HB.out.setCell (Nat.le_refl _) _).setCell (Nat.le_refl _) _).setCell (Nat.le_refl _) _⟩
theorem belowX {a b c : World} (h : Below a.heap.size a b) (k : Below b.heap.size b c) : Below a.heap.size a c := belowThen h k
set_option maxRecDepth 8000 in
set_option maxHeartbeats 1600000 in
theorem next_text_e (s : ByteArray) (i : Nat) (er : Int) (hs : s.size ≤ 1099511627776) (hi : i < s.size) (q1 : (byteI s i == 32) = false) (q2 : (byteI s i == 9) = false) (q3 : (byteI s i == 10) = false) (q4 : preAt s i [13, 10] = false) (q5 : (byteI s i == 35) = false) (hc : byteI s i = 34) (he : (quotedF s s.size (i + 1) []).2.2 = er) (h0 : ¬ er = 0) : NextErr s i er := by
  intro w
  have hb := byteI_eq hi
  have H0 := Lib.hid (belowBox w (.cells #[.int .i64 0, .string ⟨#[]⟩, .int .i64 0] 33))
  have q1 := q1
  have q2 := q2
  have q3 := q3
  have q4 := q4
  have q5 := q5
  have q6 : (byteI s i == 34) = true := by simp [hc]
  have HE := Lib.hid he
  clear he
  go_enter Tryd.func17, Tryd.ntmps17
  go_wp2_with (first
    | (go_at_call 25; refine (prefix_crlf' _ _ _).mono ?_; rintro e w' ⟨rfl, rfl⟩)
    | (go_at_call 26; refine (comment26m _ _ _ hs (by omega)).mono ?_; rintro e w' ⟨rfl, rfl⟩)
    | (go_at_call 28; refine (digit28 _ _).mono ?_; rintro e w' ⟨rfl, rfl⟩)
    | (go_at_call 30; refine (letter30 _ _).mono ?_; rintro e w' ⟨rfl, rfl⟩)
    | (go_at_call 29; refine (number29m _ _ _ hs hi).mono ?_; rintro e w' ⟨rfl, rfl⟩)
    | (go_at_call 31; refine (word31m _ _ _ hs hi).mono ?_; rintro e w' ⟨rfl, rfl⟩)
    | (go_at_call 32; refine (punct32 _ _ _ hs hi).mono ?_; rintro e w' ⟨rfl, rfl⟩))
  refine (quoted27 s i _ hs hi).mono ?_
  rintro e w2 ⟨rfl, hb2⟩
  have HB2 := Lib.hid (belowThen H0.out hb2)
  rw [HE.out]
  have HG := Lib.hid (zero_at hb2)
  have c0 := (cell_of_row w2 w.heap.size 0 _ _ _ HG.out)
  have c1 := (cell_of_row w2 w.heap.size 1 _ _ _ HG.out)
  have c2 := (cell_of_row w2 w.heap.size 2 _ _ _ HG.out)
  have f0 := (frozen_of_row w2 w.heap.size 0 _ _ HG.out)
  have f1 := (frozen_of_row w2 w.heap.size 1 _ _ HG.out)
  have f2 := (frozen_of_row w2 w.heap.size 2 _ _ HG.out)
  clear hb2
  have r1 : (er == 0) = false := by simp [h0]
  have r2 : (er != 0) = true := by simp [h0]
  clear h0
  go_wp2_with fail
  (try simp only [Exit.inBlock, Exit.then])
  refine bodyPost_ret (results_cell_row2 rfl _ _ w.heap.size 33 _ (0, 0) _ rfl (set3 HG.out) Tryd.underlying33 rfl size33) rfl ?_
  exact ⟨rfl, ((HB2.out.setCell (Nat.le_refl _) _).setCell (Nat.le_refl _) _).setCell (Nat.le_refl _) _⟩
set_option maxRecDepth 8000 in
set_option maxHeartbeats 1600000 in
theorem next_text_o (s : ByteArray) (i k : Nat) (hs : s.size ≤ 1099511627776) (hi : i < s.size) (q1 : (byteI s i == 32) = false) (q2 : (byteI s i == 9) = false) (q3 : (byteI s i == 10) = false) (q4 : preAt s i [13, 10] = false) (q5 : (byteI s i == 35) = false) (hc : byteI s i = 34) (he : (quotedF s s.size (i + 1) []).2.2 = 0) (hk : (quotedF s s.size (i + 1) []).2.1 = (k : Int)) : NextIs s i 5 k := by
  intro w
  have hb := byteI_eq hi
  have H0 := Lib.hid (belowBox w (.cells #[.int .i64 0, .string ⟨#[]⟩, .int .i64 0] 33))
  have q1 := q1
  have q2 := q2
  have q3 := q3
  have q4 := q4
  have q5 := q5
  have q6 : (byteI s i == 34) = true := by simp [hc]
  have HE := Lib.hid he
  have HK := Lib.hid hk
  have hq := quotedF_end s s.size (i + 1) [] (by omega) he
  have hk3 : i < k := by omega
  have hk4 : k ≤ s.size := by omega
  clear hq hk
  clear he
  go_enter Tryd.func17, Tryd.ntmps17
  go_wp2_with (first
    | (go_at_call 25; refine (prefix_crlf' _ _ _).mono ?_; rintro e w' ⟨rfl, rfl⟩)
    | (go_at_call 26; refine (comment26m _ _ _ hs (by omega)).mono ?_; rintro e w' ⟨rfl, rfl⟩)
    | (go_at_call 28; refine (digit28 _ _).mono ?_; rintro e w' ⟨rfl, rfl⟩)
    | (go_at_call 30; refine (letter30 _ _).mono ?_; rintro e w' ⟨rfl, rfl⟩)
    | (go_at_call 29; refine (number29m _ _ _ hs hi).mono ?_; rintro e w' ⟨rfl, rfl⟩)
    | (go_at_call 31; refine (word31m _ _ _ hs hi).mono ?_; rintro e w' ⟨rfl, rfl⟩)
    | (go_at_call 32; refine (punct32 _ _ _ hs hi).mono ?_; rintro e w' ⟨rfl, rfl⟩))
  refine (quoted27 s i _ hs hi).mono ?_
  rintro e w2 ⟨rfl, hb2⟩
  have HB2 := Lib.hid (belowThen H0.out hb2)
  rw [HE.out, HK.out]
  have HW2 := Lib.hid hb2
  clear hb2
  have qe : ((k : Int) == (i : Int)) = false := by simp; omega
  go_wp2_with fail
  refine (clone33 _ _ (by rw [ByteArray.size_extract]; omega)).mono ?_
  rintro e w1 ⟨rfl, hb1⟩
  have HG := Lib.hid (zero_at (belowX HW2.out hb1))
  have c0 := (cell_of_row w1 w.heap.size 0 _ _ _ HG.out)
  have c1 := (cell_of_row w1 w.heap.size 1 _ _ _ HG.out)
  have c2 := (cell_of_row w1 w.heap.size 2 _ _ _ HG.out)
  have f0 := (frozen_of_row w1 w.heap.size 0 _ _ HG.out)
  have f1 := (frozen_of_row w1 w.heap.size 1 _ _ HG.out)
  have f2 := (frozen_of_row w1 w.heap.size 2 _ _ HG.out)
  have HB := Lib.hid (show Below w.heap.size w w1 from belowThen HB2.out hb1)
  clear hb1
  go_wp2_with fail
  (try simp only [Exit.inBlock, Exit.then])
  refine bodyPost_ret (results_cell_row2 rfl _ _ w.heap.size 33 _ (0, 0) _ rfl (set3 HG.out) Tryd.underlying33 rfl size33) rfl ?_
  exact ⟨rfl, ((HB.out.setCell (Nat.le_refl _) _).setCell (Nat.le_refl _) _).setCell (Nat.le_refl _) _⟩

/-- Next at any place: a token of at least one byte, or an error. -/
theorem next_any (s : ByteArray) (i : Nat) (hs : s.size ≤ 1099511627776) (hi : i < s.size) : (∃ kind en, i < en ∧ en ≤ s.size ∧ NextIs s i kind en) ∨ (∃ er, er ≠ 0 ∧ NextErr s i er) := by
  by_cases h1 : byteI s i = 32
  · exact .inl ⟨1, _, (spEnd_le hi (.inl h1)).1, (spEnd_le hi (.inl h1)).2, next_sp32 s i hs hi h1⟩
  by_cases h2 : byteI s i = 9
  · exact .inl ⟨1, _, (spEnd_le hi (.inr h2)).1, (spEnd_le hi (.inr h2)).2, next_sp9 s i hs hi h2⟩
  have q1 : (byteI s i == 32) = false := by simp [h1]
  have q2 : (byteI s i == 9) = false := by simp [h2]
  by_cases h3 : byteI s i = 10
  · exact .inl ⟨2, i + 1, by omega, by omega, next_line s i hs hi q1 q2 h3⟩
  have q3 : (byteI s i == 10) = false := by simp [h3]
  cases q4 : preAt s i [13, 10]
  case true =>
    have hsz := preAt_lt (by omega) q4
    simp only [List.length_cons, List.length_nil] at hsz
    exact .inl ⟨2, i + 2, by omega, by omega, next_crlf s i hs hi q1 q2 q3 q4⟩
  by_cases h5 : byteI s i = 35
  · by_cases he : comEnd s i = i
    · exact .inr ⟨3, by omega, next_comment_e s i hs hi q1 q2 q3 q4 h5 he⟩
    · have := le_comEnd s i
      exact .inl ⟨3, _, by omega, comEnd_le s i (by omega), next_comment_o s i hs hi q1 q2 q3 q4 h5 he⟩
  have q5 : (byteI s i == 35) = false := by simp [h5]
  by_cases h6 : byteI s i = 34
  · by_cases he : (quotedF s s.size (i + 1) []).2.2 = 0
    · have hq := quotedF_end s s.size (i + 1) [] (by omega) he
      obtain ⟨k, hk⟩ : ∃ k : Nat, (quotedF s s.size (i + 1) []).2.1 = k := ⟨(quotedF s s.size (i + 1) []).2.1.toNat, by omega⟩
      exact .inl ⟨5, k, by omega, by omega, next_text_o s i k hs hi q1 q2 q3 q4 q5 h6 he hk⟩
    · exact .inr ⟨_, he, next_text_e s i _ hs hi q1 q2 q3 q4 q5 h6 rfl he⟩
  have q6 : (byteI s i == 34) = false := by simp [h6]
  cases q7 : digitB (byteI s i)
  case true =>
    obtain ⟨n, hn⟩ : ∃ n, numC s (numB s (numA s i)) = n := ⟨_, rfl⟩
    have hle : i ≤ n ∧ n ≤ s.size := by
      rw [← hn]
      have a := numA_le hi
      have b := numB_le a.1
      have c := numC_le b.1
      omega
    by_cases hlt : n < s.size
    · cases hl : letterB (byteI s n)
      · cases hd : digitB (byteI s n)
        · have he : ¬ n = i := fun e => by rw [e, q7] at hd; cases hd
          exact .inl ⟨6, n, by omega, by omega, next_num_o1 s i n hs hi q1 q2 q3 q4 q5 q6 q7 hn hlt hl hd he⟩
        · exact .inr ⟨3, by omega, next_num_bad2 s i n hs hi q1 q2 q3 q4 q5 q6 q7 hn hlt hl hd⟩
      · exact .inr ⟨3, by omega, next_num_bad1 s i n hs hi q1 q2 q3 q4 q5 q6 q7 hn hlt hl⟩
    · exact .inl ⟨6, n, by omega, by omega, next_num_o2 s i n hs hi q1 q2 q3 q4 q5 q6 q7 hn hlt hle.2⟩
  by_cases h8 : i < wordEnd s i
  · exact .inl ⟨6, _, h8, (wordEnd_le hi).1, next_word s i hs hi q1 q2 q3 q4 q5 q6 q7 h8⟩
  by_cases h9 : punctN s i = 0
  · exact .inr ⟨3, by omega, next_punct_e s i hs hi q1 q2 q3 q4 q5 q6 q7 h8 h9⟩
  · exact .inl ⟨4, _, by omega, punctN_le hi, next_punct_o s i hs hi q1 q2 q3 q4 q5 q6 q7 h8 (by omega)⟩
end Go.Proofs.YtbpdbmjfnbpihaaDoor
