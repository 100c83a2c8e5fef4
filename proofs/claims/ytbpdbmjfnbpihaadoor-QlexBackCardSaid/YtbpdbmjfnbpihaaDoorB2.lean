/- A valid string, quoted, is a valid string. -/
import Derived.Test.YtbpdbmjfnbpihaaDoorB1
namespace Go.Proofs.YtbpdbmjfnbpihaaDoor
open Go.RowKit

theorem byteAt_I {s : ByteArray} {i : Nat} (h : i < s.size) : byteAt s i = byteI s i := by rw [← byteAt_eq s i h, ← byteI_eq h]
theorem charAt_ascii {a : ByteArray} {p : Nat} (hp : p < a.size) (h : byteI a p < 128) : charAt a p = 1 := by
  have h' : byteAt a p < 128 := by rw [byteAt_I hp]; exact h
  have h0 := (byteAt_range a p).1
  rw [charAt_of (lead1 h') (by omega) (by omega) (c := byteAt a p) rfl, if_neg]
  simp [outside]
  omega
theorem okFrom_ascii {a : ByteArray} : ∀ (L : List Int) (n : Nat), (∀ c ∈ L, c < 128) → StandsAt a n L → okFrom a (a.size - n) n = okFrom a (a.size - (n + L.length)) (n + L.length)
  | [], n, _, _ => rfl
  | c :: r, n, hr, h => by
    obtain ⟨b0, l0⟩ := h.get (j := 0) rfl
    rw [Nat.add_zero] at b0 l0
    have h1 := charAt_ascii l0 (by rw [b0]; exact hr c (by simp))
    rw [okFrom_step a n 1 l0 h1 (by omega), okFrom_ascii r (n + 1) (fun x hx => hr x (by simp [hx])) (StandsAt.skip (L := [c]) h)]
    simp only [List.length_cons]
    rw [show n + 1 + r.length = n + (r.length + 1) by omega]
theorem conts_congr {a s : ByteArray} {n p : Nat} {c0 : Int} : ∀ (m : Nat), (∀ j, j ≤ m → byteAt a (n + j) = byteAt s (p + j)) → conts a n c0 m = conts s p c0 m
  | 0, _ => rfl
  | m + 1, h => by
    rw [conts, conts, conts_congr m (fun j hj => h j (by omega)), h (m + 1) (by omega)]
theorem charAt_congr {a s : ByteArray} {n p : Nat} (h : charAt s p ≠ 0) (hb : ∀ j, j < charAt s p → byteAt a (n + j) = byteAt s (p + j)) (hs : n + charAt s p ≤ a.size) : charAt a n = charAt s p := by
  obtain ⟨k, least, c0, c, hl, hc, hn, hsz, hk, ho⟩ := charAt_pos h
  rw [hc] at hb hs ⊢
  have hl' : lead (byteAt a n) = (k, least, c0) := by rw [show byteAt a n = byteAt s p from hb 0 (by omega)]; exact hl
  rw [charAt_of hl' hn hs (c := c) (by rw [conts_congr (s := s) (p := p) (k - 1) (fun j hj => hb j (by omega))]; exact hk), ho]
  simp
theorem conts_high {s : ByteArray} {p : Nat} {c0 : Int} : ∀ (m : Nat) (d : Int), conts s p c0 m = some d → ∀ j, 1 ≤ j → j ≤ m → 128 ≤ byteAt s (p + j)
  | 0, _, _, j, h1, h2 => by omega
  | m + 1, d, h, j, h1, h2 => by
    obtain ⟨e, he, k1, _, _⟩ := conts_s h
    by_cases g : j = m + 1
    · subst g; exact k1
    · exact conts_high m e he j h1 (by omega)
theorem char_high {s : ByteArray} {p : Nat} (h : charAt s p ≠ 0) (h2 : charAt s p ≠ 1) : ∀ j, j < charAt s p → 128 ≤ byteAt s (p + j) := by
  obtain ⟨k, least, c0, c, hl, hc, hn, hsz, hk, ho⟩ := charAt_pos h
  rw [hc] at h2 ⊢
  intro j hj
  by_cases g : j = 0
  · subst g
    rw [Nat.add_zero]
    have : ¬ byteAt s p < 128 := fun g2 => by rw [lead1 g2] at hl; injection hl with e _; omega
    omega
  · exact conts_high (k - 1) c hk j (by omega) (by omega)
set_option maxRecDepth 8000 in
theorem char_one {s : ByteArray} {p : Nat} (h : charAt s p = 1) : byteAt s p < 128 := by
  obtain ⟨k, least, c0, c, hl, hc, hn, hsz, hk, ho⟩ := charAt_pos (s := s) (p := p) (by omega)
  have hcls : byteAt s p < 128 ∨ (194 ≤ byteAt s p ∧ byteAt s p < 224) ∨ (224 ≤ byteAt s p ∧ byteAt s p < 240) ∨ (240 ≤ byteAt s p ∧ byteAt s p < 245) ∨ (128 ≤ byteAt s p ∧ byteAt s p < 194) ∨ 245 ≤ byteAt s p := by omega
  rcases hcls with g | g | g | g | g | g
  · exact g
  · rw [lead2 g] at hl; injection hl with e _; omega
  · rw [lead3 g] at hl; injection hl with e _; omega
  · rw [lead4 g] at hl; injection hl with e _; omega
  · rw [lead0 (.inl g)] at hl; injection hl with e _; omega
  · rw [lead0 (.inr g)] at hl; injection hl with e _; omega
theorem escB_low {c : Int} (h0 : 0 ≤ c) (h1 : c < 128) : ∀ d ∈ escB c, d < 128 := by
  intro d hd
  unfold escB hexC at hd
  repeat' split at hd
  all_goals
    simp only [List.mem_cons, List.mem_nil_iff, or_false] at hd
    omega
theorem escL_high : ∀ (l : List Int), (∀ c ∈ l, 128 ≤ c) → escL l = l
  | [], _ => rfl
  | c :: r, h => by
    have hc := h c (by simp)
    rw [escL, escL_high r (fun x hx => h x (by simp [hx]))]
    unfold escB
    rw [if_neg (by omega), if_neg (by omega), if_neg (by omega), if_neg (by omega), if_neg (by omega), if_neg (by omega), if_neg (by omega), if_neg (by omega)]
    rfl
theorem valid_from {a s : ByteArray} : ∀ (m p n : Nat), s.size - p ≤ m → p ≤ s.size → okFrom s (s.size - p) p = true → StandsAt a n (escL ((nums s).drop p) ++ [34]) → n + (escL ((nums s).drop p)).length + 1 = a.size → okFrom a (a.size - n) n = true := by
  intro m
  induction m with
  | zero =>
    intro p n hm hp hok h hlen
    have he : (nums s).drop p = [] := List.drop_eq_nil_of_le (by rw [nums_length]; omega)
    rw [he] at h hlen
    rw [okFrom_ascii [34] n (by simp) h]
    exact okFrom_end a _ (by simp [escL] at hlen ⊢; omega)
  | succ m ih =>
    intro p n hm hp hok h hlen
    by_cases hlt : p < s.size
    case neg => exact ih p n (by omega) hp hok h hlen
    obtain ⟨hc, hok2⟩ := okFrom_true hlt hok
    have hcs := (decode_char hlt hc).2.2
    by_cases h1 : charAt s p = 1
    · have hlow := char_one h1
      have hd : (nums s).drop p = byteI s p :: (nums s).drop (p + 1) := by
        rw [List.drop_eq_getElem_cons (by rw [nums_length]; exact hlt), nums_get s p hlt]
      rw [hd] at h hlen
      simp only [escL, List.append_assoc, List.length_append] at h hlen
      have hr := byteI_range hlt
      rw [okFrom_ascii (escB (byteI s p)) n (escB_low hr.1 (by rw [← byteAt_I hlt]; exact hlow)) ⟨by have := h.1; simp at this; omega, fun j hj => by
        have := h.2 j (by rw [List.length_append]; omega)
        rw [this, List.getElem_append_left hj]⟩]
      rw [h1] at hok2
      exact ih (p + 1) _ (by omega) (by omega) hok2 (StandsAt.skip h) (by omega)
    · have hhigh := char_high hc h1
      obtain ⟨k, hk⟩ : ∃ k, charAt s p = k := ⟨_, rfl⟩
      rw [hk] at hhigh hcs hok2
      have hk0 : k ≠ 0 := by rw [← hk]; exact hc
      have hsplit : (nums s).drop p = ((nums s).drop p).take k ++ (nums s).drop (p + k) := by
        rw [← List.drop_drop, List.take_append_drop]
      have htl : (((nums s).drop p).take k).length = k := by simp [nums_length]; omega
      have htg : ∀ j (hj : j < k), (((nums s).drop p).take k)[j]'(by rw [htl]; exact hj) = byteI s (p + j) := by
        intro j hj
        rw [List.getElem_take, List.getElem_drop, nums_get s (p + j) (by omega)]
      have hth : ∀ c ∈ ((nums s).drop p).take k, 128 ≤ c := by
        intro c hc2
        obtain ⟨j, hj, rfl⟩ := List.getElem_of_mem hc2
        rw [htl] at hj
        rw [htg j hj, ← byteAt_I (by omega)]
        exact hhigh j hj
      have hesc : escL ((nums s).drop p) = ((nums s).drop p).take k ++ escL ((nums s).drop (p + k)) := by
        rw [hsplit, escL_append, escL_high _ hth, ← hsplit]
      rw [hesc] at h hlen
      simp only [List.append_assoc, List.length_append, htl] at h hlen
      have hbytes : ∀ j, j < k → byteAt a (n + j) = byteAt s (p + j) := by
        intro j hj
        have hj2 : j < (((nums s).drop p).take k).length := by rw [htl]; exact hj
        have := h.2 j (by rw [List.length_append]; omega)
        rw [List.getElem_append_left hj2, htg j hj] at this
        rw [byteAt_I (by omega), byteAt_I (by omega), this]
      have hca : charAt a n = k := by
        rw [← hk]
        exact charAt_congr hc (by rw [hk]; exact hbytes) (by rw [hk]; omega)
      rw [okFrom_step a n k (by omega) hca hk0]
      have h2 := StandsAt.skip h
      rw [htl] at h2
      exact ih (p + k) _ (by omega) (by omega) hok2 h2 (by omega)
/-- The string in quotation marks. -/
def quoteS (s : ByteArray) : ByteArray := strOfNums (34 :: (escL (nums s) ++ [34]))
theorem quoteS_stands (s : ByteArray) : StandsAt (quoteS s) 0 (34 :: (escL (nums s) ++ [34])) :=
  stands_str _ (by
    intro c hc
    rcases List.mem_cons.1 hc with rfl | hc
    · omega
    · rcases List.mem_append.1 hc with hc | hc
      · exact escL_range _ (nums_range s) c hc
      · simp at hc; omega)
theorem quoteS_size (s : ByteArray) : (quoteS s).size = (escL (nums s)).length + 2 := by
  unfold quoteS
  rw [strOfNums_size]
  simp
theorem quoteS_valid {s : ByteArray} (h : validS s = true) : validS (quoteS s) = true := by
  have h1 := quoteS_stands s
  have h2 : okFrom (quoteS s) ((quoteS s).size - 0) 0 = true := by
    rw [okFrom_ascii [34] 0 (by simp) ⟨by have := h1.1; simp at this ⊢; omega, fun j hj => by
      have hj0 : j = 0 := by simpa using hj
      subst hj0
      exact h1.2 0 (by simp)⟩]
    exact valid_from s.size 0 1 (by omega) (by omega) h (StandsAt.skip (L := [34]) h1) (by rw [quoteS_size]; simp; omega)
  exact h2
theorem quoteS_read (s : ByteArray) : quotedF (quoteS s) (quoteS s).size 1 [] = (nums s, ((quoteS s).size : Int), 0) := by
  have h := quoted_all (a := quoteS s) (nums s) 1 (quoteS s).size [] (nums_range s) (StandsAt.skip (L := [34]) (quoteS_stands s)) (by
    have : ∀ l : List Int, l.length ≤ (escL l).length := by
      intro l
      induction l with
      | nil => simp
      | cons c r ih =>
        have : 1 ≤ (escB c).length := by unfold escB; (repeat' split) <;> simp
        simp [escL]; omega
    have := this (nums s)
    rw [quoteS_size]
    omega)
  rw [h, quoteS_size]
  simp
  omega
theorem escB_len (c : Int) : (escB c).length ≤ 6 := by unfold escB; (repeat' split) <;> simp
theorem escL_len : ∀ (l : List Int), (escL l).length ≤ 6 * l.length
  | [] => by simp [escL]
  | c :: r => by
    have := escB_len c
    have := escL_len r
    simp [escL]; omega
end Go.Proofs.YtbpdbmjfnbpihaaDoor
