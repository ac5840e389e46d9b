/- Layer 18: the law's word for 'not more than eight'. -/
import Derived.Test.YtkkgnmfahhkajaaV
import Derived.Test.YtkkgnmfahhkajaaQx0
namespace Go.Proofs.Ytkkgnmfahhkajaa.Q
open Go.RowKit Go.Proofs.YtkkgnmfahhkajaaW.PrintWords Go.Proofs.YtkkgnmfahhkajaaW.PrintMore
set_option linter.unusedVariables false
set_option linter.unusedSimpArgs false
attribute [local go_sem] min2_int min_two
theorem few_C {w : World} {A : Option Addr} {l : List S42} (h : Kd.C k42 w A l.length l) : Kd.C k42 w A (l.take 8).length (l.take 8) := by
  by_cases hm : 8 ≤ l.length
  · exact Kd.C_take h hm
  · rw [List.take_of_length_le (by omega)]; exact h
theorem new1 (w : World) (o1 o2 : Obj) : ((w.alloc o1).alloc o2).heap[w.heap.size + 1]? = some o2 := by
  have h := heap_alloc_new (w.alloc o1) o2
  rw [World.size_alloc] at h
  exact h
set_option maxHeartbeats 1000000 in
set_option maxRecDepth 100000 in
theorem few7 (w : World) (a b : Int) (A : Option Addr) (c : Nat) (l : List S42) (hc : l.length ≤ c) : Calls Try.prog 7 #[.agg #[.int .i64 a, .int .i64 b, .slice A l.length c]] w fun e w' => e = .returned (.agg #[.int .i64 a, .int .i64 b, .slice A (l.take 8).length c]) ∧ Below w.heap.size w w' := by
  by_cases h : 8 < l.length
  · have h8 : (l.take 8).length = 8 := by rw [List.length_take]; omega
    have hi : (8 : Int) < (l.length : Int) := by omega
    have hi2 : ¬ ((l.length : Int) < 8) := by omega
    rw [h8]
    go_enter Try.func7, Try.ntmps7
    go_wp2
    exact bodyPost_ret (results_cell_row rfl _ _ (w.heap.size + 1) 24 #[.int .i64 a, .int .i64 b, .slice A 8 c] (0, 0) _ rfl (new1 w _ _) Try.underlying24 rfl (by kernel_rfl)) rfl ⟨rfl, (by repeat (first | (with_reducible exact Below.refl _ _) | (with_reducible refine vbelow_alloc ?_ _) | (with_reducible refine vbelow_drew ?_) | (with_reducible refine vbelow_drewN ?_ _) | (with_reducible refine vbelow_set ?_ (by first | exact Nat.le_refl _ | (dsimp only; omega) | omega))))⟩
  · have h8 : (l.take 8).length = l.length := by rw [List.length_take]; omega
    have hi : ¬ ((8 : Int) < (l.length : Int)) := by omega
    rw [h8]
    go_enter Try.func7, Try.ntmps7
    go_wp2
    exact bodyPost_ret (results_cell_row rfl _ _ (w.heap.size + 1) 24 #[.int .i64 a, .int .i64 b, .slice A l.length c] (0, 0) _ rfl (new1 w _ _) Try.underlying24 rfl (by kernel_rfl)) rfl ⟨rfl, (by repeat (first | (with_reducible exact Below.refl _ _) | (with_reducible refine vbelow_alloc ?_ _) | (with_reducible refine vbelow_drew ?_) | (with_reducible refine vbelow_drewN ?_ _) | (with_reducible refine vbelow_set ?_ (by first | exact Nat.le_refl _ | (dsimp only; omega) | omega))))⟩
end Go.Proofs.Ytkkgnmfahhkajaa.Q
