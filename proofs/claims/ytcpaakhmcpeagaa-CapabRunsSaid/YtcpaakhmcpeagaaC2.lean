/- Layer 11: the table's inner functions: its row, a handle. -/
import Derived.Test.YtcpaakhmcpeagaaC1
import Derived.Test.YtcpaakhmcpeagaaC0
namespace Go.Proofs.Ytcpaakhmcpeagaa.Q
open Go.RowKit Go.Proofs.YtcpaakhmcpeagaaW.PrintWords Go.Proofs.YtcpaakhmcpeagaaW.PrintMore
set_option linter.unusedVariables false
set_option linter.unusedSimpArgs false
set_option maxHeartbeats 1000000 in
set_option maxRecDepth 100000 in
theorem row28 (w : World) (b : Nat) (P : Nat → Pl) (n : Nat) (hn : n ≤ 32) (h : TabAt w b P n true) : Calls Try.prog 28 #[.pointer (some ⟨b, 0, none⟩)] w fun e w' => e = .returned (.slice (some ⟨b, 0, none⟩) n 32) ∧ Below w.heap.size w w' := by
  have Qn := h.num
  have Qm := h.made
  have hn0 : (0 : Int) ≤ (n : Int) := by omega
  have hn1 : (n : Int) ≤ 32 := by omega
  go_enter Try.func28, Try.ntmps28
  go_wp2
  have qn := gw_cell Qn
  have qm := gw_cell Qm
  refine wp_region_quietB (by kernel_rfl) (by kernel_rfl) ?_
  repeat (first | go_big_quiet_step (fail) | quiet_step (fail))
  refine wpQuiet_nil ?_
  rintro w9 ⟨⟨wq_, hb9⟩, hwq_⟩
  obtain rfl : w9 = wq_ := hwq_
  go_wp2
  go_ret
  exact ⟨rfl, hb9⟩
set_option maxHeartbeats 1000000 in
set_option maxRecDepth 100000 in
theorem handle30 (w : World) (b : Nat) (P : Nat → Pl) (n : Int) (m : Bool) (i : Nat) (hi : i < 32) (h : TabAt w b P n m) (hr0 : 0 ≤ (P i).r) (hr1 : (P i).r ≤ 255) : Calls Try.prog 30 #[.pointer (some ⟨b, 0, none⟩), .int .i64 i] w fun e w' => e = .returned (.int .u32 (handleR i (P i).r (P i).g).1) ∧ Below w.heap.size w w' := by
  have Q0 := h.g i hi
  have Q1 := h.t i hi
  have Q2 := h.c i hi
  have Q3 := h.r i hi
  have hi1 : (i : Int) < 32 := by omega
  have hi0 : (0 : Int) ≤ (i : Int) := by omega
  have hw : wrap64 (P i).r = (P i).r := w64 (by omega) (by omega)
  go_enter Try.func30, Try.ntmps30
  go_wp2_with fail
  refine (handle36 _ _ _ _).mono ?_
  rintro e w1 ⟨rfl, hb1⟩
  have HB1 : Below w.heap.size w w1 := vbelow_step (by repeat (first | (with_reducible exact Below.refl _ _) | (with_reducible refine vbelow_alloc ?_ _) | (with_reducible refine vbelow_drew ?_) | (with_reducible refine vbelow_drewN ?_ _) | (with_reducible refine vbelow_set ?_ (by first | exact Nat.le_refl _ | (dsimp only; omega) | omega)))) hb1
  go_wp2
  go_ret
  exact ⟨rfl, (by repeat (first | (with_reducible exact Below.refl _ _) | (with_reducible exact HB1) | (with_reducible refine vbelow_alloc ?_ _) | (with_reducible refine vbelow_drew ?_) | (with_reducible refine vbelow_drewN ?_ _) | (with_reducible refine vbelow_set ?_ (by first | exact Nat.le_refl _ | (dsimp only; omega) | omega))))⟩
end Go.Proofs.Ytcpaakhmcpeagaa.Q
