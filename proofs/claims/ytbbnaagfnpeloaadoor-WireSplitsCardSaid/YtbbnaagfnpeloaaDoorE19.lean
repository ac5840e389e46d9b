/- Layer 3: alive, in the printed form. -/
import Derived.Test.YtbbnaagfnpeloaaDoorE6
import Derived.Test.YtbbnaagfnpeloaaDoorQ2x0
namespace Go.Proofs.YtbbnaagfnpeloaaDoor.Q2
open Go.RowKit
set_option linter.unusedVariables false
def rampartlaw03_alive.f : Option Bool := some true
theorem rampartlaw03_alive.calls (r : Bool) (w : World) (hP : Q.PartsHeld w) (h : rampartlaw03_alive.f = some r) : Calls Tryd.prog 14 #[] w fun e w' => e = .returned (.bool r) ∧ Below w.heap.size w w' := by
  obtain rfl := Option.some.inj h
  exact Q.alive14 w hP
end Go.Proofs.YtbbnaagfnpeloaaDoor.Q2
