/- Layer 13: alive, in the printed form. -/
import Derived.Test.YtfjljlhlifnnlaaE2
namespace Go.Proofs.Ytfjljlhlifnnlaa.Q
open Go.RowKit
set_option linter.unusedVariables false
def rampartlaw13_alive.f : Option Bool := some true
theorem rampartlaw13_alive.calls (r : Bool) (w : World) (h : rampartlaw13_alive.f = some r) : Calls Try.prog 20 #[] w fun e w' => e = .returned (.bool r) ∧ Below w.heap.size w w' := by
  obtain rfl := Option.some.inj h
  exact alive20 w
end Go.Proofs.Ytfjljlhlifnnlaa.Q
