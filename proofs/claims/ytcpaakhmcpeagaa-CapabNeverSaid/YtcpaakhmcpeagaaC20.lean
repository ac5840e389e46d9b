/- Layer 11: the law CapabNever, for any number of places. -/
import Derived.Test.YtcpaakhmcpeagaaC19
namespace Go.Proofs.Ytcpaakhmcpeagaa.Q
open Go.RowKit Go.Proofs.YtcpaakhmcpeagaaW.PrintWords Go.Proofs.YtcpaakhmcpeagaaW.PrintMore
set_option linter.unusedVariables false
set_option linter.unusedSimpArgs false
set_option maxHeartbeats 1000000 in
set_option maxRecDepth 100000 in
theorem never3_lo (w : World) (n : Int) (A : Option Addr) (c : Nat) (ops : List Oq) (hn : n < 0) : Calls Try.prog 3 #[.int .i64 n, .slice A ops.length c] w fun e w' => e = .returned (.bool true) ∧ Below w.heap.size w w' := by
  have h1 : decide (n < 0) = true := decide_eq_true hn
  go_enter Try.func3, Try.ntmps3
  go_wp2_with fail
  refine (new9_lo _ n hn).mono ?_
  rintro e w1 ⟨rfl, hb1⟩
  go_wp2_with fail
  refine (alive10 _).mono ?_
  rintro e w2 ⟨rfl, hb2⟩
  have HB2 : Below w.heap.size w w2 := vbelow_step (by repeat (first | (with_reducible exact Below.refl _ _) | (with_reducible exact hb1) | (with_reducible refine vbelow_alloc ?_ _) | (with_reducible refine vbelow_drew ?_) | (with_reducible refine vbelow_drewN ?_ _) | (with_reducible refine vbelow_set ?_ (by first | exact Nat.le_refl _ | (dsimp only; omega) | omega)))) hb2
  go_wp2
  go_ret
  exact ⟨rfl, HB2⟩
set_option maxHeartbeats 1000000 in
set_option maxRecDepth 100000 in
theorem never3_hi (w : World) (n : Int) (A : Option Addr) (c : Nat) (ops : List Oq) (hn : 32 < n) : Calls Try.prog 3 #[.int .i64 n, .slice A ops.length c] w fun e w' => e = .returned (.bool true) ∧ Below w.heap.size w w' := by
  have h1 : decide (n < 0) = false := decide_eq_false (by omega)
  have h2 : decide (32 < n) = true := decide_eq_true hn
  go_enter Try.func3, Try.ntmps3
  go_wp2_with fail
  refine (new9_hi _ n hn).mono ?_
  rintro e w1 ⟨rfl, hb1⟩
  go_wp2_with fail
  refine (alive10 _).mono ?_
  rintro e w2 ⟨rfl, hb2⟩
  have HB2 : Below w.heap.size w w2 := vbelow_step (by repeat (first | (with_reducible exact Below.refl _ _) | (with_reducible exact hb1) | (with_reducible refine vbelow_alloc ?_ _) | (with_reducible refine vbelow_drew ?_) | (with_reducible refine vbelow_drewN ?_ _) | (with_reducible refine vbelow_set ?_ (by first | exact Nat.le_refl _ | (dsimp only; omega) | omega)))) hb2
  go_wp2
  go_ret
  exact ⟨rfl, HB2⟩
theorem never3' (w : World) (n : Int) (A : Option Addr) (c : Nat) (ops : List Oq) (hO : OpsAt w A ops) (hc : ops.length ≤ 9223372036854775807) : Calls Try.prog 3 #[.int .i64 n, .slice A ops.length c] w fun e w' => e = .returned (.bool true) ∧ Below w.heap.size w w' := by
  by_cases h0 : n < 0
  · exact never3_lo w n A c ops h0
  · by_cases h1 : 32 < n
    · exact never3_hi w n A c ops h1
    · obtain ⟨m, rfl⟩ := Int.eq_ofNat_of_zero_le (show 0 ≤ n by omega)
      exact never3 w m (by omega) A c ops hO hc
end Go.Proofs.Ytcpaakhmcpeagaa.Q
