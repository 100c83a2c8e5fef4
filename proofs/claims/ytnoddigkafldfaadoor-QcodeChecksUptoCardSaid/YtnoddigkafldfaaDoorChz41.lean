/- The zero value is valid; so the program's check of an instruction is the reference's. No program here. -/
import Derived.Test.YtnoddigkafldfaaDoorIns41
import Derived.Test.YtnoddigkafldfaaDoorChkp
namespace Go.Proofs.YtnoddigkafldfaaDoor
open Go.RowKit

theorem zero_chk {v : ValD} (h : zeroB v = true) : chkD v = 0 := by
  obtain ⟨h0, h1, h2, h3, h4, h5, h6, h7⟩ := of_decide_eq_true h
  have ht : v.text.toList = [] := toList_nil h4
  have ho : ownB v = true := (ownB_iff v).2 ⟨by omega, by omega, fun _ => h1, fun _ => h2, fun _ => h3, fun _ => ht, fun _ => by omega, fun _ => by omega, fun _ => by omega⟩
  have hl : v.list = [] := List.length_eq_zero_iff.1 h6
  have hf : v.fields = [] := List.length_eq_zero_iff.1 h7
  have hq : ¬ (vdecB v.num = false ∨ (v.kind = 3 ∧ vtimeB v.time = false)) := by
    rw [vdec_zero h2]
    rintro (h | ⟨h, _⟩)
    · cases h
    · omega
  have h8 : oneE v = 0 := by
    rw [oneE_k ho hq (valid_empty h4) (by omega)]
    unfold keyD
    rw [hf]
    rfl
  unfold chkD
  rw [show lookD 48 v 0 = if (65536 : Int) ≤ 0 then (0, 10) else if oneE v = 0 then kidsL (lookD 47) (kidsD v) (0 + 1) else (0, oneE v) from rfl, if_neg (by omega), if_pos h8, own_parts ho, hl, hf]
  rfl

theorem insE_prog {x : InsD} {n : Nat} (h1 : ¬ (x.op < 1 ∨ 30 < x.op)) (h2 : badI x = false) (h3 : ¬ (withB (useA x.op) x.a n = false ∨ withB (useB x.op) x.b n = false)) : insE x n = if chkD x.val = 0 then nameE x else chkD x.val := by
  unfold insE
  rw [if_neg h1, if_neg (by rw [h2]; decide), if_neg h3]
  by_cases ho : x.op = 1
  · rw [if_pos ho]
    split
    · rename_i hc
      rw [hc]
      unfold nameE
      rw [ho]
      rfl
    · rfl
  · rw [if_neg ho]
    have hz : chkD x.val = 0 := by
      apply zero_chk
      cases hz : zeroB x.val
      · unfold badI at h2
        exact absurd (.inr (.inr (.inr ⟨ho, hz⟩))) (of_decide_eq_false h2)
      · rfl
    rw [if_pos hz]
end Go.Proofs.YtnoddigkafldfaaDoor
