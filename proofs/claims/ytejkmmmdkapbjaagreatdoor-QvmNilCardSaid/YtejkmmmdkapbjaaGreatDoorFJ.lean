/- The closed facts of the row, joined; printed by a program (facts.py). -/
import Derived.Test.YtejkmmmdkapbjaaGreatDoorF
namespace Go.Proofs.YtejkmmmdkapbjaaGreatDoor.facts
set_option maxRecDepth 100000 in
theorem closed : joinedFacts Tryz.pinned.checked.prog 3 Tryz.f3 Rows.qvmNilSpec Rows.qvmNilRow = true := (andT (andT (andT (andT (andT (andT (andT (andT (andT (andT (andT (andT (andT (andT (andT (andT (andT (andT (andT (andT (andT (andT (andT (andT (andT (andT (andT (andT (andT (andT (andT k1 k2) k3) k4) k5) k6) k7) k8) k9) k10) k11) k12) k13) k14) k15) k16) k17) k18) k19) k20) k21) k22) k23) k24) k25) k26) k27) k28) k29) k30) k31) k32)
end Go.Proofs.YtejkmmmdkapbjaaGreatDoor.facts
