/- Decimal numerals as numbers; the order of strings of digits of one length is that of their numbers. -/
import Derived.Test.YtfegnmbdgdjkgaaGreatProg
namespace Go.Proofs.YtfegnmbdgdjkgaaGreat

def dv (l : List UInt8) : Nat := l.foldl (fun a c => a * 10 + (c.toNat - 48)) 0
def AllDig (l : List UInt8) : Prop := ∀ c ∈ l, 48 ≤ c.toNat ∧ c.toNat ≤ 57
theorem fold_acc : ∀ (l : List UInt8) (a : Nat), l.foldl (fun a c => a * 10 + (c.toNat - 48)) a = a * 10 ^ l.length + dv l
  | [], a => by simp [dv]
  | c :: r, a => by
    have h1 := fold_acc r (a * 10 + (c.toNat - 48))
    have h2 := fold_acc r (0 * 10 + (c.toNat - 48))
    have h3 : dv (c :: r) = (0 * 10 + (c.toNat - 48)) * 10 ^ r.length + dv r := by
      rw [← h2]; rfl
    rw [List.foldl_cons, h1, h3, List.length_cons, Nat.pow_succ]
    generalize 10 ^ r.length = P
    have h4 : (a * 10 + (c.toNat - 48)) * P = a * (P * 10) + (c.toNat - 48) * P := by rw [Nat.add_mul, Nat.mul_assoc, Nat.mul_comm 10 P]
    rw [h4, Nat.zero_mul, Nat.zero_add, Nat.add_assoc]
theorem dv_cons (c : UInt8) (r : List UInt8) : dv (c :: r) = (c.toNat - 48) * 10 ^ r.length + dv r := by
  have := fold_acc r (0 * 10 + (c.toNat - 48))
  rw [Nat.zero_mul, Nat.zero_add] at this
  rw [← this]
  unfold dv
  rw [List.foldl_cons, Nat.zero_mul, Nat.zero_add]
theorem dv_snoc (l : List UInt8) (c : UInt8) : dv (l ++ [c]) = dv l * 10 + (c.toNat - 48) := by
  unfold dv; rw [List.foldl_append]; rfl
theorem dv_lt : ∀ (l : List UInt8), AllDig l → dv l < 10 ^ l.length
  | [], _ => by simp [dv]
  | c :: r, h => by
    have h1 := dv_lt r (fun x hx => h x (by simp [hx]))
    have h2 := h c (by simp)
    rw [dv_cons, List.length_cons, Nat.pow_succ]
    have h3 : (c.toNat - 48) * 10 ^ r.length ≤ 9 * 10 ^ r.length := Nat.mul_le_mul_right _ (by omega)
    omega
theorem less_dv : ∀ (l m : List UInt8), AllDig l → AllDig m → l.length = m.length → Op.bytesLess l m = decide (dv l < dv m) ∧ (l = m ↔ dv l = dv m)
  | [], [], _, _, _ => by simp [Op.bytesLess, dv]
  | [], _ :: _, _, _, h => by simp at h
  | _ :: _, [], _, _, h => by simp at h
  | a :: l, b :: m, hl, hm, h => by
    have hl' : AllDig l := fun x hx => hl x (by simp [hx])
    have hm' : AllDig m := fun x hx => hm x (by simp [hx])
    have hlen : l.length = m.length := by simpa using h
    obtain ⟨i1, i2⟩ := less_dv l m hl' hm' hlen
    have ha := hl a (by simp)
    have hb := hm b (by simp)
    have l1 := dv_lt l hl'
    have l2 := dv_lt m hm'
    rw [dv_cons, dv_cons, hlen]
    rw [hlen] at l1
    generalize hP : 10 ^ m.length = P at *
    by_cases hab : a = b
    · subst hab
      refine ⟨?_, ?_⟩
      · simp only [Op.bytesLess]
        simp [i1]
      · rw [List.cons.injEq]
        simp only [true_and]
        rw [i2]; omega
    · have hne : a.toNat ≠ b.toNat := fun e => hab (UInt8.toNat_inj.1 e)
      by_cases hlt : a.toNat < b.toNat
      · have h3 : (a.toNat - 48 + 1) * P ≤ (b.toNat - 48) * P := Nat.mul_le_mul_right _ (by omega)
        rw [Nat.add_mul, Nat.one_mul] at h3
        refine ⟨?_, ⟨fun e => absurd (List.cons.inj e).1 hab, fun e => by omega⟩⟩
        have hlt' : a < b := hlt
        have hd : (a.toNat - 48) * P + dv l < (b.toNat - 48) * P + dv m := by omega
        simp only [Op.bytesLess]
        simp [hlt', hd]
      · have h3 : (b.toNat - 48 + 1) * P ≤ (a.toNat - 48) * P := Nat.mul_le_mul_right _ (by omega)
        rw [Nat.add_mul, Nat.one_mul] at h3
        refine ⟨?_, ⟨fun e => absurd (List.cons.inj e).1 hab, fun e => by omega⟩⟩
        have hlt' : ¬ a < b := hlt
        have hd : ¬ (a.toNat - 48) * P + dv l < (b.toNat - 48) * P + dv m := by omega
        simp only [Op.bytesLess]
        rw [decide_eq_false hlt', decide_eq_false hd]
        simp [hab]
end Go.Proofs.YtfegnmbdgdjkgaaGreat
