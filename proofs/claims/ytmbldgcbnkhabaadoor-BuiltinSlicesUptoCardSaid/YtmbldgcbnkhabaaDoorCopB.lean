/- slices.Clone of bytes. -/
import Derived.Test.YtmbldgcbnkhabaaDoorCopA
import Derived.Test.YtmbldgcbnkhabaaDoorNou01
import Derived.Lib.SliceRun
namespace Go.Proofs.YtmbldgcbnkhabaaDoor
open Go.RowKit

theorem ownBytes_map {w : World} {B n : Nat} {v : Value} {l : List Int} (h : w.ownsRow B 5 1 v n ([] ++ l.map (Value.int .u8))) : w.ownsRow B 5 1 v n (l.map (Value.int .u8)) := by simpa using h
set_option maxRecDepth 100000 in
theorem clone_ex (l : List Int) (ya : Option Addr) (yc B : Nat) (w : World) (hl : l.length ≤ 4294967296) (hB : B ≤ w.heap.size) (hb : BytesAt w B l ya) :
    Calls Tryd.prog 49 #[.slice ya l.length yc] w (ClnR l w) := by
  obtain ⟨i0, hi, hz0, hz1, hz2⟩ := info_parts infoU8
  have HI := Lib.hid hi
  have HZ0 := Lib.hid hz0
  have HZ1 := Lib.hid hz1
  have HZ2 := Lib.hid hz2
  clear hi hz0 hz1 hz2
  have q26 : ∀ (w : World) (a : Option Addr) (n c n' c' : Nat), (binOp .eql 26 (.slice a n c) (.slice none n' c')).run Tryd.prog w = .ok (.bool a.isNone) w := fun w a n c n' c' => Lib.run_eql_slice_nil w _ _ a n c n' c' Tryd.underlying26
  cases ya with
  | none =>
    have h0 : l = [] := by
      rcases hb with h | ⟨b, o, h, _⟩
      · exact h
      · cases h
    subst h0
    clear hb
    go_enter Tryd.func49, Tryd.ntmps49
    go_wp2_with fail
    go_ret
    exact ⟨none, 0, rfl, fun c _ => .inl rfl, Below.refl _ _⟩
  | some ad =>
    have hn : ∀ w' : World, Below w.heap.size w w' → ∀ j u, (l.map (Value.int .u8))[j]? = some u → w'.cell? (ad.add j) = some u := by
      intro w' hw j u hu
      rcases hb with h | ⟨b, o, h, hlt, hc, _⟩
      · subst h; simp at hu
      · cases h
        have hj : j < (l.map (Value.int .u8)).length := by
          rcases Nat.lt_or_ge j (l.map (Value.int .u8)).length with h | h
          · exact h
          · rw [List.getElem?_eq_none h] at hu; cases hu
        rw [Addr.add_mid, hw.cell (Nat.lt_of_lt_of_le hlt hB), hc j hj, hu]
    have HN := Lib.hid hn
    have HR := Lib.hid (show ∀ x ∈ l, 0 ≤ x ∧ x ≤ 255 by
      rcases hb with h | ⟨b, o, h, hlt, hc, hr⟩
      · subst h; simp
      · exact hr)
    clear hn hb
    go_enter Tryd.func49, Tryd.ntmps49
    go_wp2_with (at_builtin; refine wpList_append_own _ rfl _ _ 26 rfl w.heap.size 5 i0 (.int .u8 0) 1 1 Tryd.underlying26 HI.out HZ0.out HZ1.out HZ2.out rfl (by decide) _ _ _ rfl (World.ownsRow_made w #[] 0 (Nat.le_refl _) (Nat.zero_le _) rfl) ad l.length yc (l.map (Value.int .u8)) rfl ?qc1 ?qc2 ?qc3 ?qc4 ?qc5 ?qc6 ?_)
    case qc1 => simp
    case qc2 => exact HN.out _ (belowBox w _)
    case qc3 => intro u hu; obtain ⟨x, _, rfl⟩ := List.mem_map.1 hu; rfl
    case qc4 => unfold maxLen; omega
    case qc5 => omega
    case qc6 => simp
    intro v' w1 hown hgrow _
    have HO := Lib.hid (bytes_safe (l := l) (ownBytes_map (B := w.heap.size) (n := l.length) (by simpa using hown)) rfl (Nat.le_refl _) HR.out)
    have HB := Lib.hid (show Below w.heap.size w w1 from (belowBox w _).grown hgrow (by simp) (by intro k hk; simp [Value.ownBlock] at hk; omega))
    clear hown hgrow
    go_wp2
    go_ret
    obtain ⟨a1, c1, e1, h1⟩ := HO.out
    exact ⟨a1, c1, by rw [← e1]; rfl, h1, HB.out⟩
end Go.Proofs.YtmbldgcbnkhabaaDoor
