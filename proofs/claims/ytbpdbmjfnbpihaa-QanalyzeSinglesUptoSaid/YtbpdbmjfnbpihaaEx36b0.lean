/- The reference's form of a node (datakitref36.form): it returns, writes nothing that was there, and where it says yes the node has as many Args as its operator asks. -/
import Derived.Test.YtbpdbmjfnbpihaaEx36
namespace Go.Proofs.Ytbpdbmjfnbpihaa
open Go.RowKit

def FormR (x : ExprD) (w : World) (e : Ending) (w' : World) : Prop := ∃ b, e = .returned (.bool b) ∧ (b = true → 0 ≤ argsN x.op → (x.args.length : Int) = argsN x.op) ∧ Below w.heap.size w w'
def ElseOp (o : Int) : Prop := (o == 3) = false ∧ (o == 7) = false ∧ (o == 12) = false ∧ (o == 13) = false ∧ (o == 21) = false ∧ (o == 23) = false ∧ (o == 25) = false ∧ (o != 3) = true ∧ (o != 23) = true

end Go.Proofs.Ytbpdbmjfnbpihaa
