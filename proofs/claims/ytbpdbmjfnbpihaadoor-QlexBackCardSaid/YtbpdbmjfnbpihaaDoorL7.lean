/- quoted of layer 35: its walk. -/
import Derived.Test.YtbpdbmjfnbpihaaDoorL6
namespace Go.Proofs.YtbpdbmjfnbpihaaDoor
open Go.RowKit

theorem info5 : (Tryd.prog.info? 5).map (fun i => (i.zero, i.size, i.bytes)) = some (some (.int .u8 0), 1, 1) := by kernel_rfl
theorem conv_owned {w : World} {B n : Nat} {v : Value} {out : List Int} (h : w.ownsRow B 5 1 v n (out.map (Value.int .u8))) (hn : n = out.length) :
    (convert 47 9 v).run Tryd.prog w = .ok (.string (strOfNums out)) w := by
  rcases h.2 with ⟨rfl, h0⟩ | ⟨g, cap, cur, rfl, hb, hg, _⟩
  · have : out = [] := List.length_eq_zero_iff.1 (by omega)
    subst this
    exact run_convert_bytes_nil w 47 5 Tryd.underlying47 Tryd.underlying5 0 0 9 Tryd.underlying9
  · refine run_convert_bytes_arg w 47 5 Tryd.underlying47 Tryd.underlying5 g 0 n cap out hn.symm (fun i hi => ?_) 9 Tryd.underlying9
    have hi' : i < out.length := by omega
    have := h.cells (g := g) rfl i (.int .u8 (out.getD i 0)) (by simp [List.getElem?_eq_getElem hi', List.getD])
    have hadd : (⟨g, 0, none⟩ : Addr).add i = ⟨g, i, none⟩ := by unfold Addr.add; split <;> simp_all
    rw [hadd] at this
    rw [Nat.zero_add]
    exact this
theorem uni41j (s : ByteArray) (j : Int) (i : Nat) (w : World) (hj : j = i) (hs : s.size ≤ 1099511627776) (hi : i ≤ s.size) :
    Calls Tryd.prog 41 #[.string s, .int .i64 j] w (UniR s i w) := by subst hj; exact unicode41 s i w hs hi
theorem idx34 (c : Int) (w : World) : Calls Tryd.prog 34 #[.string ⟨#[34, 92, 47, 98, 102, 110, 114, 116]⟩, .int .u8 c] w fun e w' => e = .returned (.int .i64 (escI c)) ∧ w = w' := (Tryd.strings_IndexByte _ c w).mono fun _ _ h => ⟨h.1, h.2.symm⟩
theorem ret_str3 {l m : IntKind} {a b : ByteArray} {c d e f : Int} (h : a = b) (g : c = d) (i : e = f) : Ending.returned (.tuple #[.string a, .int l c, .int m e]) = .returned (.tuple #[.string b, .int l d, .int m f]) := by rw [h, g, i]

def QuoR (s : ByteArray) (i : Nat) (w : World) (e : Ending) (w' : World) : Prop :=
  e = .returned (.tuple #[.string (strOfNums (quotedF s s.size (i + 1) []).1), .int .i64 (quotedF s s.size (i + 1) []).2.1, .int .i64 (quotedF s s.size (i + 1) []).2.2]) ∧ Below w.heap.size w w'

theorem quo_err {s : ByteArray} {i : Nat} {w w' : World} {k : Int} (h : quotedF s s.size (i + 1) [] = ([], 0, k)) (hb : Below w.heap.size w w') : QuoR s i w (.returned (.tuple #[.string ⟨#[]⟩, .int .i64 0, .int .i64 k])) w' :=
  ⟨by rw [h]; rfl, hb⟩
theorem enc_len (r : Int) : (Lib.encodeRuneZ r).length ≤ 4 := by unfold Lib.encodeRuneZ; (repeat' split) <;> simp
theorem own_below {w w' : World} {B n : Nat} {v : Value} {xs : List Value} (h : w.ownsRow B 5 1 v n xs) (hb : Below w.heap.size w w') : w'.ownsRow B 5 1 v n xs := by
  refine ⟨h.1, ?_⟩
  rcases h.2 with hn | ⟨g, cap, cur, rfl, h1, h2, rest⟩
  · exact .inl hn
  · exact .inr ⟨g, cap, cur, rfl, h1, (hb.block g (Array.getElem?_eq_some_iff.1 h2).1).trans h2, rest⟩
theorem own_map {w : World} {B n : Nat} {v : Value} {out l : List Int} (h : w.ownsRow B 5 1 v n (out.map (Value.int .u8) ++ l.map (Value.int .u8))) : w.ownsRow B 5 1 v n ((out ++ l).map (Value.int .u8)) := by rwa [List.map_append]

set_option maxRecDepth 100000 in
set_option maxHeartbeats 6400000 in
theorem quoted27 (s : ByteArray) (i : Nat) (w : World) (hs : s.size ≤ 1099511627776) (hi : i < s.size) :
    Calls Tryd.prog 27 #[.string s, .int .i64 i] w (QuoR s i w) := by
  obtain ⟨i0, hin, hz0, hz1, hz2⟩ := info_parts info5
  go_enter Tryd.func27, Tryd.ntmps27
  go_wp2_with fail
  go_simp
  go_loopw [1, 7] (fun t v wr => ∃ (n f : Nat) (out : List Int), t = .int .i64 n ∧ n ≤ s.size ∧ s.size ≤ n + f ∧ out.length ≤ n ∧ wr.ownsRow w.heap.size 5 1 v out.length (out.map (Value.int .u8)) ∧ Below w.heap.size w wr ∧ quotedF s f n out = quotedF s s.size (i + 1) []) (fun t _ _ => s.size - (intOf t).toNat)
  case atStart => exact ⟨i + 1, s.size, [], by go_num, by omega, by omega, by simp, World.ownsRow_nil _ _ _ _, Below.refl _ _, rfl⟩
  case round =>
    obtain ⟨w1, rfl⟩ : ∃ w1, w1 = wr := ⟨wr, rfl⟩
    obtain ⟨n, f, out, rfl, hn, hf, hout, hown, hbel, hq⟩ := hrel
    have HO := Lib.hid hown
    have HB := Lib.hid hbel
    have HQ := Lib.hid hq
    clear hown hbel hq
    by_cases hlt : n < s.size
    case neg =>
      have HZ := Lib.hid (show quotedF s s.size (i + 1) [] = ([], 0, 4) by
        rw [← HQ.out]
        cases f with
        | zero => rfl
        | succ f => rw [quotedF, if_pos hlt])
      go_wp2_with fail
      go_ret3
      exact quo_err HZ.out HB.out
    obtain ⟨f, rfl⟩ : ∃ g, f = g + 1 := ⟨f - 1, by omega⟩
    have HF := Lib.hid (show quotedF s s.size (i + 1) [] = quotedF s (f + 1) n out from HQ.out.symm)
    have hb := byteI_eq hlt
    have hr := byteI_range hlt
    by_cases g1 : byteI s n = 34
    · have HZ := Lib.hid (show quotedF s s.size (i + 1) [] = (out, (n : Int) + 1, 0) by rw [HF.out, quotedF, if_neg (by omega), if_pos g1])
      have hconv := conv_owned HO.out rfl
      go_wp2_with fail
      go_ret3
      exact ⟨by rw [HZ.out]; rfl, HB.out⟩
    have q1 : (byteI s n == 34) = false := by simp [g1]
    by_cases g2 : byteI s n < 32
    · have HZ := Lib.hid (show quotedF s s.size (i + 1) [] = ([], 0, 3) by rw [HF.out, quotedF, if_neg (by omega), if_neg g1, if_pos g2])
      go_wp2_with fail
      go_ret3
      exact quo_err HZ.out HB.out
    by_cases g3 : byteI s n = 92
    case neg =>
      have HZ := Lib.hid (show quotedF s s.size (i + 1) [] = quotedF s f (n + 1) (out ++ [byteI s n]) by rw [HF.out, quotedF, if_neg (by omega), if_neg g1, if_neg g2, if_pos g3])
      have q3 : (byteI s n == 92) = false := by simp [g3]
      have q4 : (byteI s n != 92) = true := by simp [g3]
      go_wp2_with (first
        | (at_builtin; refine wpList_append_own _ rfl _ _ 47 rfl w.heap.size 5 i0 (.int .u8 0) 1 1 Tryd.underlying47 hin hz0 hz1 hz2 rfl (by decide) _ _ _ rfl (HO.out.alloc _) ⟨w1.heap.size, 0, none⟩ 1 1 [.int .u8 (byteI s n)] rfl rfl (cell_one_new _ _ _) (fun x hx => by simp at hx; subst hx; rfl) (by unfold maxLen; omega) (by omega) (by simp only [World.size_alloc]; have := HB.out.size; omega) ?_
           intro v' w3 hown' hgrow3 _
           have HO3 := Lib.hid (own_map (l := [byteI s n]) hown')
           have HB3 := Lib.hid (show Below w.heap.size w w3 from Below.grown (HB.out.alloc HB.out.size _) hgrow3 (by simp only [World.size_alloc]; have := HB.out.size; omega) (fun j hj => by have := (HO.out.lt _ hj).1; omega))
           clear hown' hgrow3))
      go_roundw
      case rel => exact ⟨n + 1, f, out ++ [byteI s n], by go_num, by omega, by omega, by simp; omega, by simpa using HO3.out, HB3.out, HZ.out.symm⟩
      case measure => simp [intOf]; omega
    have HF2 := Lib.hid (show quotedF s s.size (i + 1) [] = if ¬ n + 1 < s.size then ([], 0, 4)
      else if byteI s (n + 1) = 117 then (if (uniF s (n + 2)).2.2 ≠ 0 then ([], 0, (uniF s (n + 2)).2.2) else quotedF s f (uniF s (n + 2)).2.1.toNat (out ++ Lib.encodeRuneZ (uniF s (n + 2)).1))
      else if unE (byteI s (n + 1)) < 0 then ([], 0, 3) else quotedF s f (n + 2) (out ++ [unE (byteI s (n + 1))]) by rw [HF.out, quotedF, if_neg (by omega), if_neg g1, if_neg g2, if_neg (by omega)])
    clear HF g1 g2 hr
    by_cases g4 : n + 1 < s.size
    case neg =>
      have HZ := Lib.hid (show quotedF s s.size (i + 1) [] = ([], 0, 4) by rw [HF2.out, if_pos g4])
      go_wp2_with fail
      go_ret3
      exact quo_err HZ.out HB.out
    have hb2 := byteI_eq g4
    have hr2 := byteI_range g4
    by_cases g5 : byteI s (n + 1) = 117
    · have HZ := Lib.hid (show quotedF s s.size (i + 1) [] = if (uniF s (n + 2)).2.2 ≠ 0 then ([], 0, (uniF s (n + 2)).2.2) else quotedF s f (uniF s (n + 2)).2.1.toNat (out ++ Lib.encodeRuneZ (uniF s (n + 2)).1) by rw [HF2.out, if_neg (by omega), if_pos g5])
      clear HF2
      have hur := Lib.hid (uniF_range s (n + 2))
      have hue := Lib.hid (uniF_end (s := s) (i := n + 2) (by omega))
      go_wp2_with fail
      refine (uni41j s _ (n + 2) _ (by omega) hs (by omega)).mono ?_
      rintro e w2 ⟨rfl, hb2w⟩
      have HB2 := Lib.hid (HB.out.trans (hb2w.mono HB.out.size))
      have HO2 := Lib.hid (own_below HO.out hb2w)
      clear hb2w
      generalize hu1 : (uniF s (n + 2)).1 = r at *
      generalize hu2 : (uniF s (n + 2)).2.1 = k at *
      generalize hu3 : (uniF s (n + 2)).2.2 = er at *
      clear hu1 hu2 hu3
      by_cases k0 : er = 0
      · have HZ2 := Lib.hid (show quotedF s s.size (i + 1) [] = quotedF s f k.toNat (out ++ Lib.encodeRuneZ r) by rw [HZ.out, if_neg (by omega)])
        have hk : (n : Int) + 6 ≤ k ∧ k ≤ s.size := by have := hue.out k0; omega
        obtain ⟨m, rfl⟩ : ∃ m : Nat, k = m := ⟨k.toNat, by omega⟩
        have hm1 : n + 6 ≤ m := by omega
        have hm2 : m ≤ s.size := by omega
        have hel := enc_len r
        subst k0
        clear hue HZ hk
        go_wp2_with fail
        refine (Tryd.utf8_AppendRune_plain w.heap.size _ out.length _ r (by have := hur.out; omega) (by have := hur.out; omega) w2 HO2.out (by omega) HB2.out.size).mono ?_
        rintro e w3 ⟨v', rfl, hown', o, hgrow3⟩
        have HO3 := Lib.hid (show w3.ownsRow w.heap.size 5 1 v' (out ++ Lib.encodeRuneZ r).length ((out ++ Lib.encodeRuneZ r).map (Value.int .u8)) by
          have := own_map (l := Lib.encodeRuneZ r) hown'
          rw [List.length_append]
          simpa [Lib.runeCells] using this)
        have HB3 := Lib.hid (show Below w.heap.size w w3 from Below.grown (HB2.out.alloc HB2.out.size _) hgrow3 (by simp only [World.size_alloc]; have := HB2.out.size; omega) (fun j hj => by have := (HO2.out.lt _ hj).1; omega))
        clear hown' hgrow3
        go_wp2_with fail
        go_roundw
        case rel => exact ⟨m, f, out ++ Lib.encodeRuneZ r, rfl, hm2, by omega, by rw [List.length_append]; omega, HO3.out, HB3.out, by rw [HZ2.out]; rfl⟩
        case measure => simp [intOf]; omega
      · have HZ2 := Lib.hid (show quotedF s s.size (i + 1) [] = ([], 0, er) by rw [HZ.out, if_pos k0])
        have q5 : (er == 0) = false := by simp [k0]
        have q6 : (er != 0) = true := by simp [k0]
        clear hue HZ k0
        go_wp2_with fail
        go_ret3
        exact quo_err HZ2.out HB2.out
    · have HZ := Lib.hid (show quotedF s s.size (i + 1) [] = if unE (byteI s (n + 1)) < 0 then ([], 0, 3) else quotedF s f (n + 2) (out ++ [unE (byteI s (n + 1))]) by rw [HF2.out, if_neg (by omega), if_neg g5])
      have q5 : (byteI s (n + 1) == 117) = false := by simp [g5]
      clear HF2
      rcases escI_cases hr2.1 hr2.2 with ⟨x1, x2⟩ | ⟨x1, x2⟩ | ⟨x1, x2⟩ | ⟨x1, x2⟩ | ⟨x1, x2⟩ | ⟨x1, x2⟩ | ⟨x1, x2⟩ | ⟨x1, x2⟩ | ⟨x1, x2⟩
      case inr.inr.inr.inr.inr.inr.inr.inr =>
        have HZ2 := Lib.hid (show quotedF s s.size (i + 1) [] = ([], 0, 3) by rw [HZ.out, x2, if_pos (by omega)])
        clear HZ x2
        go_wp2_with (go_at_call 34; refine (idx34 _ _).mono ?_; rintro e w' ⟨rfl, rfl⟩)
        go_ret3
        exact quo_err HZ2.out HB.out
      · have HZ2 := Lib.hid (show quotedF s s.size (i + 1) [] = quotedF s f (n + 2) (out ++ [34]) by rw [HZ.out, x2, if_neg (by omega)])
        have hcj : ∀ h : 0 < (⟨#[34, 92, 47, 8, 12, 10, 13, 9]⟩ : ByteArray).size, ((⟨#[34, 92, 47, 8, 12, 10, 13, 9]⟩ : ByteArray)[0]'h).toNat = 34 := fun _ => rfl
        clear HZ x2
        go_wp2_with (first
          | (go_at_call 34; refine (idx34 _ _).mono ?_; rintro e w' ⟨rfl, rfl⟩)
          | (at_builtin; refine wpList_append_own _ rfl _ _ 47 rfl w.heap.size 5 i0 (.int .u8 0) 1 1 Tryd.underlying47 hin hz0 hz1 hz2 rfl (by decide) _ _ _ rfl (HO.out.alloc _) ⟨w1.heap.size, 0, none⟩ 1 1 [.int .u8 (34)] rfl rfl (cell_one_new _ _ _) (fun x hx => by simp at hx; subst hx; rfl) (by unfold maxLen; omega) (by omega) (by simp only [World.size_alloc]; have := HB.out.size; omega) ?_
             intro v' w3 hown' hgrow3 _
             have HO3 := Lib.hid (own_map (l := [34]) hown')
             have HB3 := Lib.hid (show Below w.heap.size w w3 from Below.grown (HB.out.alloc HB.out.size _) hgrow3 (by simp only [World.size_alloc]; have := HB.out.size; omega) (fun j hj => by have := (HO.out.lt _ hj).1; omega))
             clear hown' hgrow3))
        go_roundw
        case rel => exact ⟨n + 2, f, out ++ [34], by go_num, by omega, by omega, by simp; omega, by simpa using HO3.out, HB3.out, HZ2.out.symm⟩
        case measure => simp [intOf]; omega
      · have HZ2 := Lib.hid (show quotedF s s.size (i + 1) [] = quotedF s f (n + 2) (out ++ [92]) by rw [HZ.out, x2, if_neg (by omega)])
        have hcj : ∀ h : 1 < (⟨#[34, 92, 47, 8, 12, 10, 13, 9]⟩ : ByteArray).size, ((⟨#[34, 92, 47, 8, 12, 10, 13, 9]⟩ : ByteArray)[1]'h).toNat = 92 := fun _ => rfl
        clear HZ x2
        go_wp2_with (first
          | (go_at_call 34; refine (idx34 _ _).mono ?_; rintro e w' ⟨rfl, rfl⟩)
          | (at_builtin; refine wpList_append_own _ rfl _ _ 47 rfl w.heap.size 5 i0 (.int .u8 0) 1 1 Tryd.underlying47 hin hz0 hz1 hz2 rfl (by decide) _ _ _ rfl (HO.out.alloc _) ⟨w1.heap.size, 0, none⟩ 1 1 [.int .u8 (92)] rfl rfl (cell_one_new _ _ _) (fun x hx => by simp at hx; subst hx; rfl) (by unfold maxLen; omega) (by omega) (by simp only [World.size_alloc]; have := HB.out.size; omega) ?_
             intro v' w3 hown' hgrow3 _
             have HO3 := Lib.hid (own_map (l := [92]) hown')
             have HB3 := Lib.hid (show Below w.heap.size w w3 from Below.grown (HB.out.alloc HB.out.size _) hgrow3 (by simp only [World.size_alloc]; have := HB.out.size; omega) (fun j hj => by have := (HO.out.lt _ hj).1; omega))
             clear hown' hgrow3))
        go_roundw
        case rel => exact ⟨n + 2, f, out ++ [92], by go_num, by omega, by omega, by simp; omega, by simpa using HO3.out, HB3.out, HZ2.out.symm⟩
        case measure => simp [intOf]; omega
      · have HZ2 := Lib.hid (show quotedF s s.size (i + 1) [] = quotedF s f (n + 2) (out ++ [47]) by rw [HZ.out, x2, if_neg (by omega)])
        have hcj : ∀ h : 2 < (⟨#[34, 92, 47, 8, 12, 10, 13, 9]⟩ : ByteArray).size, ((⟨#[34, 92, 47, 8, 12, 10, 13, 9]⟩ : ByteArray)[2]'h).toNat = 47 := fun _ => rfl
        clear HZ x2
        go_wp2_with (first
          | (go_at_call 34; refine (idx34 _ _).mono ?_; rintro e w' ⟨rfl, rfl⟩)
          | (at_builtin; refine wpList_append_own _ rfl _ _ 47 rfl w.heap.size 5 i0 (.int .u8 0) 1 1 Tryd.underlying47 hin hz0 hz1 hz2 rfl (by decide) _ _ _ rfl (HO.out.alloc _) ⟨w1.heap.size, 0, none⟩ 1 1 [.int .u8 (47)] rfl rfl (cell_one_new _ _ _) (fun x hx => by simp at hx; subst hx; rfl) (by unfold maxLen; omega) (by omega) (by simp only [World.size_alloc]; have := HB.out.size; omega) ?_
             intro v' w3 hown' hgrow3 _
             have HO3 := Lib.hid (own_map (l := [47]) hown')
             have HB3 := Lib.hid (show Below w.heap.size w w3 from Below.grown (HB.out.alloc HB.out.size _) hgrow3 (by simp only [World.size_alloc]; have := HB.out.size; omega) (fun j hj => by have := (HO.out.lt _ hj).1; omega))
             clear hown' hgrow3))
        go_roundw
        case rel => exact ⟨n + 2, f, out ++ [47], by go_num, by omega, by omega, by simp; omega, by simpa using HO3.out, HB3.out, HZ2.out.symm⟩
        case measure => simp [intOf]; omega
      · have HZ2 := Lib.hid (show quotedF s s.size (i + 1) [] = quotedF s f (n + 2) (out ++ [8]) by rw [HZ.out, x2, if_neg (by omega)])
        have hcj : ∀ h : 3 < (⟨#[34, 92, 47, 8, 12, 10, 13, 9]⟩ : ByteArray).size, ((⟨#[34, 92, 47, 8, 12, 10, 13, 9]⟩ : ByteArray)[3]'h).toNat = 8 := fun _ => rfl
        clear HZ x2
        go_wp2_with (first
          | (go_at_call 34; refine (idx34 _ _).mono ?_; rintro e w' ⟨rfl, rfl⟩)
          | (at_builtin; refine wpList_append_own _ rfl _ _ 47 rfl w.heap.size 5 i0 (.int .u8 0) 1 1 Tryd.underlying47 hin hz0 hz1 hz2 rfl (by decide) _ _ _ rfl (HO.out.alloc _) ⟨w1.heap.size, 0, none⟩ 1 1 [.int .u8 (8)] rfl rfl (cell_one_new _ _ _) (fun x hx => by simp at hx; subst hx; rfl) (by unfold maxLen; omega) (by omega) (by simp only [World.size_alloc]; have := HB.out.size; omega) ?_
             intro v' w3 hown' hgrow3 _
             have HO3 := Lib.hid (own_map (l := [8]) hown')
             have HB3 := Lib.hid (show Below w.heap.size w w3 from Below.grown (HB.out.alloc HB.out.size _) hgrow3 (by simp only [World.size_alloc]; have := HB.out.size; omega) (fun j hj => by have := (HO.out.lt _ hj).1; omega))
             clear hown' hgrow3))
        go_roundw
        case rel => exact ⟨n + 2, f, out ++ [8], by go_num, by omega, by omega, by simp; omega, by simpa using HO3.out, HB3.out, HZ2.out.symm⟩
        case measure => simp [intOf]; omega
      · have HZ2 := Lib.hid (show quotedF s s.size (i + 1) [] = quotedF s f (n + 2) (out ++ [12]) by rw [HZ.out, x2, if_neg (by omega)])
        have hcj : ∀ h : 4 < (⟨#[34, 92, 47, 8, 12, 10, 13, 9]⟩ : ByteArray).size, ((⟨#[34, 92, 47, 8, 12, 10, 13, 9]⟩ : ByteArray)[4]'h).toNat = 12 := fun _ => rfl
        clear HZ x2
        go_wp2_with (first
          | (go_at_call 34; refine (idx34 _ _).mono ?_; rintro e w' ⟨rfl, rfl⟩)
          | (at_builtin; refine wpList_append_own _ rfl _ _ 47 rfl w.heap.size 5 i0 (.int .u8 0) 1 1 Tryd.underlying47 hin hz0 hz1 hz2 rfl (by decide) _ _ _ rfl (HO.out.alloc _) ⟨w1.heap.size, 0, none⟩ 1 1 [.int .u8 (12)] rfl rfl (cell_one_new _ _ _) (fun x hx => by simp at hx; subst hx; rfl) (by unfold maxLen; omega) (by omega) (by simp only [World.size_alloc]; have := HB.out.size; omega) ?_
             intro v' w3 hown' hgrow3 _
             have HO3 := Lib.hid (own_map (l := [12]) hown')
             have HB3 := Lib.hid (show Below w.heap.size w w3 from Below.grown (HB.out.alloc HB.out.size _) hgrow3 (by simp only [World.size_alloc]; have := HB.out.size; omega) (fun j hj => by have := (HO.out.lt _ hj).1; omega))
             clear hown' hgrow3))
        go_roundw
        case rel => exact ⟨n + 2, f, out ++ [12], by go_num, by omega, by omega, by simp; omega, by simpa using HO3.out, HB3.out, HZ2.out.symm⟩
        case measure => simp [intOf]; omega
      · have HZ2 := Lib.hid (show quotedF s s.size (i + 1) [] = quotedF s f (n + 2) (out ++ [10]) by rw [HZ.out, x2, if_neg (by omega)])
        have hcj : ∀ h : 5 < (⟨#[34, 92, 47, 8, 12, 10, 13, 9]⟩ : ByteArray).size, ((⟨#[34, 92, 47, 8, 12, 10, 13, 9]⟩ : ByteArray)[5]'h).toNat = 10 := fun _ => rfl
        clear HZ x2
        go_wp2_with (first
          | (go_at_call 34; refine (idx34 _ _).mono ?_; rintro e w' ⟨rfl, rfl⟩)
          | (at_builtin; refine wpList_append_own _ rfl _ _ 47 rfl w.heap.size 5 i0 (.int .u8 0) 1 1 Tryd.underlying47 hin hz0 hz1 hz2 rfl (by decide) _ _ _ rfl (HO.out.alloc _) ⟨w1.heap.size, 0, none⟩ 1 1 [.int .u8 (10)] rfl rfl (cell_one_new _ _ _) (fun x hx => by simp at hx; subst hx; rfl) (by unfold maxLen; omega) (by omega) (by simp only [World.size_alloc]; have := HB.out.size; omega) ?_
             intro v' w3 hown' hgrow3 _
             have HO3 := Lib.hid (own_map (l := [10]) hown')
             have HB3 := Lib.hid (show Below w.heap.size w w3 from Below.grown (HB.out.alloc HB.out.size _) hgrow3 (by simp only [World.size_alloc]; have := HB.out.size; omega) (fun j hj => by have := (HO.out.lt _ hj).1; omega))
             clear hown' hgrow3))
        go_roundw
        case rel => exact ⟨n + 2, f, out ++ [10], by go_num, by omega, by omega, by simp; omega, by simpa using HO3.out, HB3.out, HZ2.out.symm⟩
        case measure => simp [intOf]; omega
      · have HZ2 := Lib.hid (show quotedF s s.size (i + 1) [] = quotedF s f (n + 2) (out ++ [13]) by rw [HZ.out, x2, if_neg (by omega)])
        have hcj : ∀ h : 6 < (⟨#[34, 92, 47, 8, 12, 10, 13, 9]⟩ : ByteArray).size, ((⟨#[34, 92, 47, 8, 12, 10, 13, 9]⟩ : ByteArray)[6]'h).toNat = 13 := fun _ => rfl
        clear HZ x2
        go_wp2_with (first
          | (go_at_call 34; refine (idx34 _ _).mono ?_; rintro e w' ⟨rfl, rfl⟩)
          | (at_builtin; refine wpList_append_own _ rfl _ _ 47 rfl w.heap.size 5 i0 (.int .u8 0) 1 1 Tryd.underlying47 hin hz0 hz1 hz2 rfl (by decide) _ _ _ rfl (HO.out.alloc _) ⟨w1.heap.size, 0, none⟩ 1 1 [.int .u8 (13)] rfl rfl (cell_one_new _ _ _) (fun x hx => by simp at hx; subst hx; rfl) (by unfold maxLen; omega) (by omega) (by simp only [World.size_alloc]; have := HB.out.size; omega) ?_
             intro v' w3 hown' hgrow3 _
             have HO3 := Lib.hid (own_map (l := [13]) hown')
             have HB3 := Lib.hid (show Below w.heap.size w w3 from Below.grown (HB.out.alloc HB.out.size _) hgrow3 (by simp only [World.size_alloc]; have := HB.out.size; omega) (fun j hj => by have := (HO.out.lt _ hj).1; omega))
             clear hown' hgrow3))
        go_roundw
        case rel => exact ⟨n + 2, f, out ++ [13], by go_num, by omega, by omega, by simp; omega, by simpa using HO3.out, HB3.out, HZ2.out.symm⟩
        case measure => simp [intOf]; omega
      · have HZ2 := Lib.hid (show quotedF s s.size (i + 1) [] = quotedF s f (n + 2) (out ++ [9]) by rw [HZ.out, x2, if_neg (by omega)])
        have hcj : ∀ h : 7 < (⟨#[34, 92, 47, 8, 12, 10, 13, 9]⟩ : ByteArray).size, ((⟨#[34, 92, 47, 8, 12, 10, 13, 9]⟩ : ByteArray)[7]'h).toNat = 9 := fun _ => rfl
        clear HZ x2
        go_wp2_with (first
          | (go_at_call 34; refine (idx34 _ _).mono ?_; rintro e w' ⟨rfl, rfl⟩)
          | (at_builtin; refine wpList_append_own _ rfl _ _ 47 rfl w.heap.size 5 i0 (.int .u8 0) 1 1 Tryd.underlying47 hin hz0 hz1 hz2 rfl (by decide) _ _ _ rfl (HO.out.alloc _) ⟨w1.heap.size, 0, none⟩ 1 1 [.int .u8 (9)] rfl rfl (cell_one_new _ _ _) (fun x hx => by simp at hx; subst hx; rfl) (by unfold maxLen; omega) (by omega) (by simp only [World.size_alloc]; have := HB.out.size; omega) ?_
             intro v' w3 hown' hgrow3 _
             have HO3 := Lib.hid (own_map (l := [9]) hown')
             have HB3 := Lib.hid (show Below w.heap.size w w3 from Below.grown (HB.out.alloc HB.out.size _) hgrow3 (by simp only [World.size_alloc]; have := HB.out.size; omega) (fun j hj => by have := (HO.out.lt _ hj).1; omega))
             clear hown' hgrow3))
        go_roundw
        case rel => exact ⟨n + 2, f, out ++ [9], by go_num, by omega, by omega, by simp; omega, by simpa using HO3.out, HB3.out, HZ2.out.symm⟩
        case measure => simp [intOf]; omega
end Go.Proofs.YtbpdbmjfnbpihaaDoor
