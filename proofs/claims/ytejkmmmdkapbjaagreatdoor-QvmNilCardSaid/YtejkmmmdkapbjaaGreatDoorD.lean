/- The tied card of QvmNil. -/
import Derived.Test.YtejkmmmdkapbjaaGreatDoorCards
import Derived.Test.YtejkmmmdkapbjaaGreatDoorTie
import Derived.Test.YtejkmmmdkapbjaaGreatDoorC
namespace Go.Proofs.YtejkmmmdkapbjaaGreatDoor.nil

theorem holds : Rows.QvmNilCardSaid :=
  Claim7.holds_tied_plain_at .later [] [.data, .data, .data, .data, .sentinel, .sentinel, .listed, .data, .pinned] true (true, "c6dbbf1e69d2037cd6464facd283e63b1754d93b4b91bfb2a2bdab72bad3274e") true
    said (fun _ h => by cases h) facts.byText (fun _ h => by cases h) qvmNil_row_tie rfl ⟨rfl, rfl⟩ facts.main rfl
    (fun f fn hf hfn => by
      obtain rfl : f = 3 := Option.some.inj (facts.named.symm.trans hf) |>.symm
      obtain rfl : fn = Tryz.f3 := (Option.some.inj (Tryz.func3.symm.trans hfn)).symm
      exact ⟨facts.looks, fun j t ht => by
        rw [Tryz.params3] at ht
        have hm : t ∈ [3] := by simpa using Array.mem_of_getElem? ht
        have hall : ([3].all fun u => !Tryz.prog.wantsStandIn u) = true := by kernel_rfl
        exact (show Tryz.prog.wantsStandIn t = false by simpa using List.all_eq_true.1 hall t hm)⟩)
    facts.goes
#print axioms holds
end Go.Proofs.YtejkmmmdkapbjaaGreatDoor.nil
