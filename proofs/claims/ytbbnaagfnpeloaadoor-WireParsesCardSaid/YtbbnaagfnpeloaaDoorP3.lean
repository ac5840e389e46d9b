/- Layer 3, plain: which replies may be, and their bytes by the reference. -/
import Derived.Test.YtbbnaagfnpeloaaDoorP1
import Derived.Test.YtbbnaagfnpeloaaDoorQx5
namespace Go.Proofs.YtbbnaagfnpeloaaDoor.Q
open Go.RowKit Go.Proofs.YtbbnaagfnpeloaaDoorW.PrintWords Go.Proofs.YtbbnaagfnpeloaaDoorW.PrintMore
set_option linter.unusedVariables false
set_option linter.unusedSimpArgs false
/-- A reply that may be. -/
def isRep (cd a h p : Int) : Bool := if cd = 1 then true else if cd = 2 ∨ cd = 3 ∨ cd = 4 then (a == 0) && (h == 0) && (p == 0) else false
theorem codes_of (kd : Int) : kd = 1 ∨ kd = 2 ∨ kd = 3 ∨ kd = 4 ∨ (kd ≠ 1 ∧ kd ≠ 2 ∧ kd ≠ 3 ∧ kd ≠ 4) := by omega
theorem may_eq (cd a h p : Int) : wire_may.f cd a h p = some (isRep cd a h p) := by
  unfold wire_may.f isRep
  rcases codes_of cd with rfl | rfl | rfl | rfl | ⟨a1, a2, a3, a4⟩
  all_goals simp [*, Bool.and_assoc]
theorem isReply_eq (cd a h p : Int) : rampartref03_IsReply.f cd a h p = some (isRep cd a h p) := by
  unfold rampartref03_IsReply.f isRep
  rcases codes_of cd with rfl | rfl | rfl | rfl | ⟨a1, a2, a3, a4⟩
  all_goals simp [*]
  all_goals (by_cases ha : a = 0 <;> by_cases hh : h = 0 <;> simp [ha, hh])
theorem refReplyBytes_eq (cd a h p : Int) (h0 : 0 ≤ h) (h1 : h < 4294967296) (p0 : 0 ≤ p) (p1 : p < 18446744073709551616) : rampartref03_ReplyBytes.f 9 cd a h p = some (if isRep cd a h p = true then bytes16 cd a 0 h p else [], if isRep cd a h p = true then 0 else 30) := by
  unfold rampartref03_ReplyBytes.f
  rw [isReply_eq]
  simp only [Option.bind_some]
  cases isRep cd a h p with
  | true => simp [shape_eq cd a 0 h p h0 h1 p0 p1]
  | false => simp
end Go.Proofs.YtbbnaagfnpeloaaDoor.Q
