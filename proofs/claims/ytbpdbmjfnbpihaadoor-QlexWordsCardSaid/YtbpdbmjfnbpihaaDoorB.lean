/- Keywords and identifiers of layer 35: Keyword and Ident of the program and of the reference compute the same. -/
import Derived.Test.YtbpdbmjfnbpihaaDoorA
import Derived.Laws.Rows
namespace Go.Proofs.YtbpdbmjfnbpihaaDoor
open Go.RowKit

def kws : List (List UInt8) := [[97, 110, 100], [97, 115], [98, 114, 101, 97, 107], [99, 97, 116, 99, 104], [100, 101, 102], [101, 108, 115, 101], [101, 110, 100], [102, 97, 108, 115, 101], [102, 111, 114, 101, 97, 99, 104], [105, 102], [105, 109, 112, 111, 114, 116], [108, 97, 98, 101, 108], [110, 117, 108, 108], [111, 114], [114, 101, 100, 117, 99, 101], [116, 104, 101, 110], [116, 114, 117, 101], [116, 114, 121]]
def bs (l : List UInt8) : ByteArray := ⟨l.toArray⟩
def isKw (s : ByteArray) : Bool := kws.any fun k => s.toList == k

set_option maxHeartbeats 800000 in
theorem keyword8 (s : ByteArray) (w : World) : Calls Tryd.prog 8 #[.string s] w fun e w' => e = .returned (.bool (isKw s)) ∧ w = w' := by
  have HL := Lib.hid (show isKw s = kws.any (fun k => s.toList == k) from rfl)
  go_enter Tryd.func8, Tryd.ntmps8
  go_wp2
  all_goals
    go_ret
    refine ⟨ret_bool ?_, rfl⟩
    rw [HL.out]
    simp only [kws, List.any_cons, List.any_nil]
    first | (exfalso; simp_all; done) | simp [*]

def kwArr : Array Value := (kws.map fun k => Value.string (bs k)).toArray
theorem kwArr_size : kwArr.size = 18 := rfl
/-- The table lies where the program's start laid it. -/
def KwLaid (w : World) : Prop := ∃ T fr, w.heap[0]? = some (.cells kwArr T fr)

def kwAt (k : Nat) : ByteArray := bs (kws.getD k [])
theorem bs_toList (l : List UInt8) : (bs l).toList = l := by rw [ByteArray.toList_eq]; rfl
theorem idx38_0 (w : World) : (Instr.index 38 (.agg kwArr) (.int .i64 ((0 : Nat) : Int))).run Tryd.prog w = .ok (.string (kwAt 0)) w := by kernel_rfl
theorem idx38_1 (w : World) : (Instr.index 38 (.agg kwArr) (.int .i64 ((1 : Nat) : Int))).run Tryd.prog w = .ok (.string (kwAt 1)) w := by kernel_rfl
theorem idx38_2 (w : World) : (Instr.index 38 (.agg kwArr) (.int .i64 ((2 : Nat) : Int))).run Tryd.prog w = .ok (.string (kwAt 2)) w := by kernel_rfl
theorem idx38_3 (w : World) : (Instr.index 38 (.agg kwArr) (.int .i64 ((3 : Nat) : Int))).run Tryd.prog w = .ok (.string (kwAt 3)) w := by kernel_rfl
theorem idx38_4 (w : World) : (Instr.index 38 (.agg kwArr) (.int .i64 ((4 : Nat) : Int))).run Tryd.prog w = .ok (.string (kwAt 4)) w := by kernel_rfl
theorem idx38_5 (w : World) : (Instr.index 38 (.agg kwArr) (.int .i64 ((5 : Nat) : Int))).run Tryd.prog w = .ok (.string (kwAt 5)) w := by kernel_rfl
theorem idx38_6 (w : World) : (Instr.index 38 (.agg kwArr) (.int .i64 ((6 : Nat) : Int))).run Tryd.prog w = .ok (.string (kwAt 6)) w := by kernel_rfl
theorem idx38_7 (w : World) : (Instr.index 38 (.agg kwArr) (.int .i64 ((7 : Nat) : Int))).run Tryd.prog w = .ok (.string (kwAt 7)) w := by kernel_rfl
theorem idx38_8 (w : World) : (Instr.index 38 (.agg kwArr) (.int .i64 ((8 : Nat) : Int))).run Tryd.prog w = .ok (.string (kwAt 8)) w := by kernel_rfl
theorem idx38_9 (w : World) : (Instr.index 38 (.agg kwArr) (.int .i64 ((9 : Nat) : Int))).run Tryd.prog w = .ok (.string (kwAt 9)) w := by kernel_rfl
theorem idx38_10 (w : World) : (Instr.index 38 (.agg kwArr) (.int .i64 ((10 : Nat) : Int))).run Tryd.prog w = .ok (.string (kwAt 10)) w := by kernel_rfl
theorem idx38_11 (w : World) : (Instr.index 38 (.agg kwArr) (.int .i64 ((11 : Nat) : Int))).run Tryd.prog w = .ok (.string (kwAt 11)) w := by kernel_rfl
theorem idx38_12 (w : World) : (Instr.index 38 (.agg kwArr) (.int .i64 ((12 : Nat) : Int))).run Tryd.prog w = .ok (.string (kwAt 12)) w := by kernel_rfl
theorem idx38_13 (w : World) : (Instr.index 38 (.agg kwArr) (.int .i64 ((13 : Nat) : Int))).run Tryd.prog w = .ok (.string (kwAt 13)) w := by kernel_rfl
theorem idx38_14 (w : World) : (Instr.index 38 (.agg kwArr) (.int .i64 ((14 : Nat) : Int))).run Tryd.prog w = .ok (.string (kwAt 14)) w := by kernel_rfl
theorem idx38_15 (w : World) : (Instr.index 38 (.agg kwArr) (.int .i64 ((15 : Nat) : Int))).run Tryd.prog w = .ok (.string (kwAt 15)) w := by kernel_rfl
theorem idx38_16 (w : World) : (Instr.index 38 (.agg kwArr) (.int .i64 ((16 : Nat) : Int))).run Tryd.prog w = .ok (.string (kwAt 16)) w := by kernel_rfl
theorem idx38_17 (w : World) : (Instr.index 38 (.agg kwArr) (.int .i64 ((17 : Nat) : Int))).run Tryd.prog w = .ok (.string (kwAt 17)) w := by kernel_rfl
theorem idx38 (k : Nat) (hk : k < 18) (w : World) : (Instr.index 38 (.agg kwArr) (.int .i64 (k : Int))).run Tryd.prog w = .ok (.string (kwAt k)) w := by
  have h : k = 0 ∨ k = 1 ∨ k = 2 ∨ k = 3 ∨ k = 4 ∨ k = 5 ∨ k = 6 ∨ k = 7 ∨ k = 8 ∨ k = 9 ∨ k = 10 ∨ k = 11 ∨ k = 12 ∨ k = 13 ∨ k = 14 ∨ k = 15 ∨ k = 16 ∨ k = 17 := by omega
  rcases h with rfl | rfl | rfl | rfl | rfl | rfl | rfl | rfl | rfl | rfl | rfl | rfl | rfl | rfl | rfl | rfl | rfl | rfl
  · exact idx38_0 w
  · exact idx38_1 w
  · exact idx38_2 w
  · exact idx38_3 w
  · exact idx38_4 w
  · exact idx38_5 w
  · exact idx38_6 w
  · exact idx38_7 w
  · exact idx38_8 w
  · exact idx38_9 w
  · exact idx38_10 w
  · exact idx38_11 w
  · exact idx38_12 w
  · exact idx38_13 w
  · exact idx38_14 w
  · exact idx38_15 w
  · exact idx38_16 w
  · exact idx38_17 w

theorem isKw_true (s : ByteArray) (k : Nat) (hk : k < 18) (h : ((kwAt k).toList == s.toList) = true) : isKw s = true := by
  have e : (kwAt k).toList = s.toList := by simpa using h
  unfold isKw
  rw [List.any_eq_true]
  refine ⟨kws.getD k [], ?_, ?_⟩
  · have hk' : k < kws.length := hk
    have e2 : kws.getD k [] = kws[k] := by simp [List.getD, List.getElem?_eq_getElem hk']
    rw [e2]
    exact List.getElem_mem _
  · rw [← e]; unfold kwAt; rw [bs_toList]; simp
theorem isKw_false (s : ByteArray) (h : ∀ j, j < 18 → ((kwAt j).toList == s.toList) = false) : isKw s = false := by
  unfold isKw
  rw [List.any_eq_false]
  intro x hx
  obtain ⟨j, hj, rfl⟩ := List.getElem_of_mem hx
  have := h j hj
  unfold kwAt at this
  have e2 : kws.getD j [] = kws[j] := by simp [List.getD, List.getElem?_eq_getElem hj]
  rw [bs_toList, e2] at this
  have h2 : kws[j] ≠ s.toList := by simpa using this
  simpa using fun e : s.toList = kws[j] => h2 e.symm

set_option maxHeartbeats 800000 in
theorem keyword7 (s : ByteArray) (w : World) (hk : KwLaid w) : Calls Tryd.prog 7 #[.string s] w fun e w' => e = .returned (.bool (isKw s)) ∧ w = w' := by
  obtain ⟨T, fr, hg⟩ := hk
  have HG := Lib.hid hg
  clear hg
  go_enter Tryd.func7, Tryd.ntmps7
  go_wp2_with (refine wpList_load_row rfl 38 (.global 0) rfl 0 rfl T kwArr fr _ HG.out Tryd.underlying38 rfl (by kernel_rfl) ?_)
  go_loop [6] (fun i => ∃ k : Nat, k ≤ 18 ∧ i = .int .i64 k ∧ ∀ j, j < k → ((kwAt j).toList == s.toList) = false) (fun i => 18 - (intOf i).toNat)
  case atStart => exact ⟨0, by omega, rfl, fun j hj => absurd hj (by omega)⟩
  case round =>
    obtain ⟨k, hk, rfl, hr⟩ := hrel
    have HR := Lib.hid hr
    clear hr
    by_cases hlt : k < 18
    · have hi := idx38 k hlt
      cases he : ((kwAt k).toList == s.toList)
      · go_wp2_with fail
        go_round
        case rel => exact ⟨k + 1, by omega, by go_num, fun j hj => by
          by_cases e : j = k
          · subst e; exact he
          · exact HR.out j (by omega)⟩
        case measure => simp [intOf]; omega
      · have HT := Lib.hid (isKw_true s k hlt he)
        go_wp2_with fail
        go_ret
        exact ⟨ret_bool HT.out.symm, rfl⟩
    · obtain rfl : k = 18 := by omega
      have HT := Lib.hid (isKw_false s HR.out)
      go_wp2_with fail
      go_ret
      exact ⟨ret_bool HT.out.symm, rfl⟩

/-- An identifier: a name of at most 64 bytes that is no keyword. -/
def identB (s : ByteArray) : Bool := nameB s && decide (s.size ≤ 64) && !isKw s

theorem name21 (s : ByteArray) (w : World) (hs : s.size ≤ maxLen) : Calls Tryd.prog 21 #[.string s] w fun e w' => e = .returned (.bool (nameB s)) ∧ w = w' := by
  have HL := Lib.hid (show nameB s = (decide (0 < s.size) && nameAt s 0 == s.size) from rfl)
  by_cases h0 : s.toList = []
  · have hz : s.size = 0 := by
      rw [ByteArray.toList_eq] at h0
      have : s.data.size = s.size := rfl
      rw [← this, ← Array.length_toList, h0]; rfl
    have HF := Lib.hid (show nameB s = false by simp [nameB, hz])
    go_enter Tryd.func21, Tryd.ntmps21
    go_wp2_with fail
    go_ret
    exact ⟨ret_bool HF.out.symm, rfl⟩
  · have hz : 0 < s.size := by
      rw [ByteArray.toList_eq] at h0
      have : s.data.size = s.size := rfl
      rw [← this, ← Array.length_toList]
      exact List.length_pos_iff.2 h0
    have HF := Lib.hid (show nameB s = (nameAt s 0 == s.size) by simp [nameB, hz])
    have h1 : (!s.toList.isEmpty) = true := by simpa using h0
    go_enter Tryd.func21, Tryd.ntmps21
    go_wp2_with (go_at_call 35; refine (follows35 _ _ hs).mono ?_; rintro e w' ⟨rfl, rfl⟩)
    go_ret
    refine ⟨ret_bool ?_, rfl⟩
    rw [HF.out, Bool.eq_iff_iff]
    simp; omega

theorem ident10 (s : ByteArray) (w : World) (hs : s.size ≤ maxLen) : Calls Tryd.prog 10 #[.string s] w fun e w' => e = .returned (.bool (identB s)) ∧ w = w' := by
  have HL := Lib.hid (show identB s = (nameB s && decide (s.size ≤ 64) && !isKw s) from rfl)
  cases hn : nameB s
  · go_enter Tryd.func10, Tryd.ntmps10
    go_wp2_with (first | (go_at_call 21; refine (name21 _ _ hs).mono ?_; rintro e w' ⟨rfl, rfl⟩) | (go_at_call 8; refine (keyword8 _ _).mono ?_; rintro e w' ⟨rfl, rfl⟩))
    go_ret
    refine ⟨ret_bool ?_, rfl⟩
    rw [HL.out]
    simp [hn]
  · go_enter Tryd.func10, Tryd.ntmps10
    go_wp2_with (first | (go_at_call 21; refine (name21 _ _ hs).mono ?_; rintro e w' ⟨rfl, rfl⟩) | (go_at_call 8; refine (keyword8 _ _).mono ?_; rintro e w' ⟨rfl, rfl⟩))
    all_goals
      go_ret
      refine ⟨ret_bool ?_, rfl⟩
      rw [HL.out, hn]
      first
        | (have h : (s.size : Int) ≤ 64 := by assumption
           have h' : s.size ≤ 64 := by omega
           simp [h'])
        | (have h : (64 : Int) < s.size := by assumption
           have h' : ¬ s.size ≤ 64 := by omega
           simp [h'])

theorem ident9 (s : ByteArray) (w : World) (hs : s.size ≤ maxLen) (hk : KwLaid w) : Calls Tryd.prog 9 #[.string s] w fun e w' => e = .returned (.bool (identB s)) ∧ w = w' := by
  have HL := Lib.hid (show identB s = (nameB s && decide (s.size ≤ 64) && !isKw s) from rfl)
  have HK := Lib.hid hk
  clear hk
  by_cases h0 : s.toList = []
  · have hz : s.size = 0 := by
      rw [ByteArray.toList_eq] at h0
      have : s.data.size = s.size := rfl
      rw [← this, ← Array.length_toList, h0]; rfl
    have HF := Lib.hid (show nameB s = false by simp [nameB, hz])
    go_enter Tryd.func9, Tryd.ntmps9
    go_wp2_with fail
    go_ret
    refine ⟨ret_bool ?_, rfl⟩
    rw [HL.out, HF.out]
    simp
  · have hz : 0 < s.size := by
      rw [ByteArray.toList_eq] at h0
      have : s.data.size = s.size := rfl
      rw [← this, ← Array.length_toList]
      exact List.length_pos_iff.2 h0
    have HF := Lib.hid (show nameB s = (nameAt s 0 == s.size) by simp [nameB, hz])
    have h1 : (!s.toList.isEmpty) = true := by simpa using h0
    by_cases h64 : (s.size : Int) ≤ 64
    · go_enter Tryd.func9, Tryd.ntmps9
      go_wp2_with (first | (go_at_call 20; refine (name20 s 0 _ hs (by omega)).mono ?_; rintro e w' ⟨rfl, rfl⟩) | (go_at_call 7; refine (keyword7 _ _ HK.out).mono ?_; rintro e w' ⟨rfl, rfl⟩))
      all_goals
        go_ret
        refine ⟨ret_bool ?_, rfl⟩
        have h' : s.size ≤ 64 := by omega
        rw [HL.out, HF.out]
        first
          | (have h : (nameAt s 0 : Int) = s.size := by assumption
             have h2 : nameAt s 0 = s.size := by omega
             simp [h2, h'])
          | (have h : ¬ (nameAt s 0 : Int) = s.size := by assumption
             have h2 : ¬ nameAt s 0 = s.size := by omega
             simp [h2])
    · go_enter Tryd.func9, Tryd.ntmps9
      go_wp2_with fail
      go_ret
      refine ⟨ret_bool ?_, rfl⟩
      have h' : ¬ s.size ≤ 64 := by omega
      rw [HL.out]
      simp [h']

def reduceS : ByteArray := ⟨#[114, 101, 100, 117, 99, 101]⟩
def a1S : ByteArray := ⟨#[95, 97, 49]⟩
theorem toList_data (s : ByteArray) : s.toList = s.data.toList := ByteArray.toList_eq s
theorem isKw_reduce : isKw ⟨#[114, 101, 100, 117, 99, 101]⟩ = true := by
  unfold isKw
  rw [toList_data]
  decide
theorem ident_a1 : identB ⟨#[95, 97, 49]⟩ = true := by
  unfold identB isKw
  rw [toList_data]
  decide

theorem law3 (s : ByteArray) (w : World) (hs : s.size ≤ maxLen) (hk : KwLaid w) : Calls Tryd.prog 3 #[.string s] w fun e w' => e = .returned (.bool true) ∧ w = w' := by
  have HK := Lib.hid hk
  clear hk
  have h1 := isKw_reduce
  have h2 := ident_a1
  go_enter Tryd.func3, Tryd.ntmps3
  go_wp2_with fail
  refine (keyword7 _ _ HK.out).mono ?_
  rintro e w' ⟨rfl, rfl⟩
  go_wp2_with fail
  refine (keyword8 _ _).mono ?_
  rintro e w' ⟨rfl, rfl⟩
  go_wp2_with fail
  refine (ident9 _ _ hs HK.out).mono ?_
  rintro e w' ⟨rfl, rfl⟩
  go_wp2_with fail
  refine (ident10 _ _ hs).mono ?_
  rintro e w' ⟨rfl, rfl⟩
  go_wp2_with fail
  refine (keyword7 _ _ HK.out).mono ?_
  rintro e w' ⟨rfl, rfl⟩
  go_wp2_with fail
  refine (ident9 _ _ (by decide) HK.out).mono ?_
  rintro e w' ⟨rfl, rfl⟩
  go_wp2_with fail
  go_ret
  exact ⟨rfl, rfl⟩
end Go.Proofs.YtbpdbmjfnbpihaaDoor
