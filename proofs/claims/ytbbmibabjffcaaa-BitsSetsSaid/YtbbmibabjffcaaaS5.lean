/- Layer 1: the law over sets and their members, walked. -/
import Derived.Test.YtbbmibabjffcaaaR1
import Derived.Test.YtbbmibabjffcaaaS4
import Derived.Test.YtbbmibabjffcaaaV
namespace Go.Proofs.Ytbbmibabjffcaaa.Q
open Go.RowKit Go.Shelf Go.Proofs.YtbbmibabjffcaaaW.PrintWords Go.Proofs.YtbbmibabjffcaaaW.PrintLast Go.Proofs.YtbbmibabjffcaaaW.PrintMore
attribute [local go_sem] max2_int min2_int max_two min_two
set_option linter.unusedVariables false
set_option linter.unusedSimpArgs false
theorem boxed_drawn {W : World} {B : Nat} {t : TypeId} {v : Value} (h : Boxed W B t v) (m : Nat) : Boxed (W.drewN m) B t v := boxed_below h (pw_below_drewN (Below.refl W.heap.size W) m) h.lt
theorem eqFun (B : Nat) (W : World) : (binOp .eql 32 (.func (.func 41) #[] #[.pointer (some ⟨B, 0, none⟩)]) .nilFunc).run Try.prog W = .ok (.bool false) W := by first | kernel_rfl | rfl | simp [go_sem]
theorem take_reads {w : World} {A : Option Addr} {l : List Int} (m : Nat) (h : Kd.C (Kd.int .i64) w A l.length l) : Kd.C (Kd.int .i64) w A (l.take m).length (l.take m) := by
  by_cases hm : m ≤ l.length
  · exact Kd.C_take h hm
  · rw [List.take_of_length_le (by omega)]; exact h
theorem drawn_below {w w' : World} (h : Drawn0 w w') : Below w.heap.size w w' := by
  obtain ⟨n, rfl⟩ := h
  exact pw_below_drewN (Below.refl _ _) n

end Go.Proofs.Ytbbmibabjffcaaa.Q
